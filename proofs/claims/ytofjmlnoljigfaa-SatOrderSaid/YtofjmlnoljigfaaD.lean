/- What Sum, Clear, New, Merge, Copy of sat.Row answer. Conditions: the receiver is a row that stands there. -/
import Derived.Test.YtofjmlnoljigfaaC
import Derived.Deep.Light
set_option linter.unusedVariables false
set_option linter.unusedSimpArgs false
namespace Go.Proofs.Ytofjmlnoljigfaa
open Go.RowKit

/-- An owned row of numbers, opened. -/
theorem own_open {w : World} {B : Nat} {v : Value} {l : List Int} (h : w.ownsRow B 3 1 v l.length (ints l)) :
    (v = .slice none 0 0 ∧ l = []) ∨ ∃ g cap, v = .slice (some ⟨g, 0, none⟩) l.length cap ∧ B ≤ g ∧ g < w.heap.size ∧ l.length ≤ cap ∧ cap ≤ maxLen ∧
      (∀ j, j < l.length → w.cell? ⟨g, j, none⟩ = some (.int .i64 (l.getD j 0))) ∧ ∀ j, w.frozen? ⟨g, j, none⟩ = false := by
  rcases h.2 with ⟨rfl, h0⟩ | ⟨g, cap, cur, rfl, hB, hg, hn, hm, hcs, ht⟩
  · exact .inl ⟨rfl, List.eq_nil_of_length_eq_zero h0⟩
  · refine .inr ⟨g, cap, rfl, hB, (Array.getElem?_eq_some_iff.1 hg).1, hn, hm, fun j hj => ?_, fun j => ?_⟩
    · have := h.cells (g := g) rfl j (.int .i64 (l.getD j 0)) (by simp [ints, List.getD_eq_getElem?_getD, hj])
      have ha : (⟨g, 0, none⟩ : Addr).add j = ⟨g, j, none⟩ := by unfold Addr.add; split <;> simp_all
      rwa [ha] at this
    · simp [World.frozen?, hg]

def sumL (top : Int) (l : List Int) : Int := l.foldl (fun s n => moreI top s n) 0
theorem sumL_snoc (top : Int) (l : List Int) (n : Int) : sumL top (l ++ [n]) = moreI top (sumL top l) n := by simp [sumL]
theorem snoc_ind {α : Type} {p : List α → Prop} (h0 : p []) (h1 : ∀ l a, p l → p (l ++ [a])) (l : List α) : p l := by
  rw [← List.reverse_reverse l]
  induction l.reverse with
  | nil => exact h0
  | cons a r ih => rw [List.reverse_cons]; exact h1 _ _ ih
theorem sumL_le (top : Int) (ht : 0 ≤ top) (l : List Int) (hl : ∀ n ∈ l, 0 ≤ n) : 0 ≤ sumL top l ∧ sumL top l ≤ top := by
  induction l using snoc_ind with
  | h0 => exact ⟨Int.le_refl _, ht⟩
  | h1 l n ih =>
    have h := ih (fun m hm => hl m (List.mem_append_left _ hm))
    have := moreI_le top (sumL top l) n h.1 h.2 (hl n (by simp))
    rw [sumL_snoc]; omega
theorem allL_len {L : List Int} {size top : Int} (ok : SatOk L size top) : (allL L size).length = size.toNat := by
  have := ok.len; have := ok.s2; unfold allL; simp; omega
theorem allL_get {L : List Int} {size top : Int} (ok : SatOk L size top) (j : Nat) (h : j < size.toNat) : (allL L size).getD j 0 = L.getD j 0 := by
  unfold allL; simp [List.getD_eq_getElem?_getD, List.getElem?_take, h]
theorem allL_ge {L : List Int} {size top : Int} (ok : SatOk L size top) : ∀ n ∈ allL L size, 0 ≤ n ∧ n ≤ top := by
  intro n hn
  obtain ⟨i, hi, rfl⟩ := List.getElem_of_mem hn
  have := ok.c i
  rw [← allL_get ok i (by rw [← allL_len ok]; exact hi)] at this
  simpa [List.getD_eq_getElem?_getD, hi] using this

theorem sum_nil (w : World) : Calls Try.prog 17 #[.pointer none] w fun e w' => e = .returned (.int .i64 0) ∧ w = w' := by
  have HH := Lib.hid all_nil
  go_enter Try.func17, Try.ntmps17
  go_wp2_with (fail)
  refine (HH.out _).mono ?_
  rintro e w1 ⟨rfl, rfl⟩
  go_wp2_with (fail)
  refine wp_loop_once ?_
  go_wp2_with (fail)
  go_ret
  exact ⟨rfl, rfl⟩

set_option maxRecDepth 100000 in
theorem sum_any {w : World} {b : Nat} {L : List Int} {size top : Int} (h : Sat w b L size top) (ok : SatOk L size top) :
    Calls Try.prog 17 #[.pointer (some ⟨b, 0, none⟩)] w fun e w' => e = .returned (.int .i64 (sumL top (allL L size))) ∧ Below w.heap.size w w' := by
  have HA := Lib.hid (all_any h (by have := ok.s1; omega) ok.s2)
  have hall := allL_ge ok
  have hlen := allL_len ok
  have H := Lib.hid h
  have ht1 := ok.t1
  have ht2 := ok.t2
  have hs1 := ok.s1
  have hs2 := ok.s2
  clear h ok
  generalize allL L size = l at *
  have HL := Lib.hid hlen
  have HG := Lib.hid hall
  clear hlen hall
  go_enter Try.func17, Try.ntmps17
  go_wp2_with (fail)
  refine HA.out.mono ?_
  rintro e w1 ⟨v, rfl, hown, hb⟩
  have hr := Lib.hid (H.out.keep (Touch.of_below hb (fun _ => False)) (fun x => x))
  have HB := Lib.hid hb
  rcases own_open hown with ⟨rfl, rfl⟩ | ⟨g, cap, rfl, hg, hg2, hlc, hcm, hcell, hfr⟩
  · exfalso
    have := HL.out
    simp at this
    omega
  · clear hown hb
    have hl64 : l.length ≤ 64 := by have := HL.out; omega
    have HC := Lib.hid hcell
    clear hcell hfr
    go_wp2_with (fail)
    go_loop [3, 9] (fun x i => ∃ k : Nat, k ≤ l.length ∧ i = .int .i64 k ∧ x = .int .i64 (sumL top (l.take k))) (fun _ i => l.length - (intOf i).toNat)
    case atStart => exact ⟨0, Nat.zero_le _, rfl, rfl⟩
    case round =>
      obtain ⟨k, hk, rfl, rfl⟩ := hrel
      by_cases hlt : k < l.length
      · have c := HC.out k hlt
        have hss := Lib.hid (sumL_snoc top (l.take k) (l.getD k 0))
        have htk := Lib.hid (take_one l k 0 hlt)
        have hx0 : l.getD k 0 ∈ l := by rw [List.getD_eq_getElem?_getD, List.getElem?_eq_getElem hlt]; exact List.getElem_mem hlt
        have hx := HG.out _ hx0
        have hsl := sumL_le top (by omega) (l.take k) (fun n hn => (HG.out n (List.mem_of_mem_take hn)).1)
        clear hx0
        have HM := Lib.hid (more_any hr.out (sumL top (l.take k)) (l.getD k 0) hsl.1 hsl.2 ht2 hx.1 (by omega))
        generalize sumL top (l.take k) = s at *
        generalize l.getD k 0 = x at *
        have hki : (k : Int) < l.length := by omega
        go_wp2_with (fail)
        refine HM.out.mono ?_
        rintro e w1 ⟨rfl, rfl⟩
        go_wp2_with (fail)
        go_light
        go_round
        case rel => exact ⟨k + 1, by omega, by go_num, by rw [htk.out, hss.out]⟩
        case measure => simp [intOf]; omega
      · obtain rfl : k = l.length := by omega
        go_wp2_with (fail)
        go_ret
        exact ⟨rfl, HB.out⟩

def clrL (L : List Int) (k : Nat) : List Int := List.replicate k 0 ++ L.drop k
theorem clrL_set (L : List Int) (k : Nat) (h : k < L.length) : (clrL L k).set k 0 = clrL L (k + 1) := by
  unfold clrL
  rw [List.set_append_right _ _ (by simp)]
  simp only [List.length_replicate, Nat.sub_self]
  rw [List.drop_eq_getElem_cons h, List.set_cons_zero, List.replicate_succ', List.append_assoc]
  rfl
theorem clrL_get (L : List Int) (k : Nat) (h : k < L.length) : (clrL L k).getD k 0 = L.getD k 0 := by
  unfold clrL
  simp [List.getD_eq_getElem?_getD, List.getElem?_append]
theorem clrL_ok {L : List Int} {size top : Int} (ok : SatOk L size top) (k : Nat) (hk : k ≤ 64) : SatOk (clrL L k) size top := by
  refine ⟨by simp [clrL, ok.len]; omega, ok.s1, ok.s2, ok.t1, ok.t2, fun i => ?_⟩
  have := ok.c i
  have := ok.t1
  unfold clrL
  rw [List.getD_eq_getElem?_getD, List.getElem?_append]
  split
  · rename_i h1
    simp at h1
    simp [List.getElem?_replicate, h1]; omega
  · rename_i h1
    simp at h1
    rw [List.getElem?_drop, List.length_replicate, show k + (i - k) = i by omega, ← List.getD_eq_getElem?_getD]
    exact ok.c i

theorem clear_nil (w : World) : Calls Try.prog 13 #[.pointer none] w fun e w' => e = .returned (.slice none 0 0) ∧ w = w' := by
  have HH := Lib.hid has_nil
  go_enter Try.func13, Try.ntmps13
  go_wp2_with (fail)
  refine wp_loop_once ?_
  go_wp2_with (fail)
  refine (HH.out _ _).mono ?_
  rintro e w1 ⟨rfl, rfl⟩
  go_wp2_with (fail)
  go_ret
  exact ⟨rfl, rfl⟩

set_option maxRecDepth 100000 in
theorem clear_any {w : World} {b : Nat} {L : List Int} {size top : Int} (h : Sat w b L size top) (ok : SatOk L size top) :
    Calls Try.prog 13 #[.pointer (some ⟨b, 0, none⟩)] w fun e w' => ∃ v, e = .returned v ∧ w'.ownsRow w.heap.size 3 1 v (allL L size).length (ints (allL L size)) ∧
      Sat w' b (clrL L size.toNat) size top ∧ Touch (· = b) w w' := by
  have hs1 := ok.s1
  have hs2 := ok.s2
  obtain ⟨s, rfl⟩ := Int.eq_ofNat_of_zero_le (show 0 ≤ size by omega)
  obtain ⟨i0, hi, hz0, hz1, hz2⟩ := info_parts info3
  have hlen := h.len
  have hbl := h.blk.lt
  have H := Lib.hid h
  clear h ok
  have hs' : s ≤ 64 := by omega
  unfold allL
  rw [Int.toNat_natCast]
  go_enter Try.func13, Try.ntmps13
  go_wp2
  go_loopw [3, 4] (fun v i wr => ∃ k : Nat, k ≤ s ∧ i = .int .i64 k ∧ wr.ownsRow w.heap.size 3 1 v (L.take k).length (ints (L.take k)) ∧ Sat wr b (clrL L k) s top ∧ Touch (· = b) w wr) (fun _ i _ => s - (intOf i).toNat)
  case atStart => exact ⟨0, by omega, rfl, World.ownsRow_nil _ _ _ _, H.out, Touch.refl _ _⟩
  case round =>
    obtain ⟨k, hk, rfl, hown, hr, hb⟩ := hrel
    have HW := Lib.hid hown
    have HB := Lib.hid hb
    have HH := Lib.hid (has_any hr k)
    by_cases hlt : k < s
    · have HSW := Lib.hid (swap_any (hr.count k (by omega)) (hr.blk.frozen k) 0)
      have HR := Lib.hid (hr.set k (by omega) 0)
      rw [clrL_get L k (by omega)] at HSW
      rw [clrL_set L k (by omega)] at HR
      clear hown hb hr
      have hb := Lib.hid (hasB_yes (size := s) (i := k) (by omega))
      have ht := Lib.hid (take_one L k 0 (by omega))
      have hl := Lib.hid (show (L.take k).length = k by simp; omega)
      generalize L.getD k 0 = x at *
      generalize L.take k = l at *
      have hki : (k : Int) < 64 := by omega
      go_wp2_with (fail)
      refine HH.out.mono ?_
      rw [hb.out]
      rintro e w1 ⟨rfl, rfl⟩
      go_wp2_with (fail)
      refine HSW.out.mono ?_
      rintro e w1 ⟨rfl, hw1⟩
      have HOWN : Hid (w1.ownsRow w.heap.size 3 1 u3 l.length (ints l)) := by rw [← hw1]; exact ownsRow_setCell_below HW.out hbl _
      have HT : Hid (Touch (· = b) w w1) := by rw [← hw1]; exact HB.out.trans (Touch.setCell _ _ _ _) (fun _ _ h => h)
      rw [hw1] at HR
      clear hw1
      go_wp2_with (at_builtin; refine wpList_append_own _ rfl _ _ 34 rfl w.heap.size 3 i0 (.int .i64 0) 1 8 Try.underlying34 hi hz0 hz1 hz2 rfl (by decide) u3 l.length (ints l) rfl ?hown ⟨w1.heap.size, 0, none⟩ 1 1 (ints [x]) rfl ?hl ?hnews ?hone ?h63 ?hbytes ?hbase ?h)
      case hown => exact HOWN.out.alloc _
      case hl => rfl
      case hnews => exact one_cell w1 _ _
      case hone => exact ints_one [x]
      case h63 => have := hl.out; unfold maxLen; omega
      case hbytes => have := hl.out; omega
      case hbase => exact Nat.le_trans HT.out.size (by simp)
      intro v' w' hown hgr hnil
      have HN := Lib.hid hown
      have HT2 := Lib.hid (show Touch (· = b) w w' from (HT.out.trans (Touch.alloc (fun _ => False) w1 _) (fun _ _ h => h.elim)).trans (Touch.grown hgr) (fun j hj h => by
        have := HOWN.out.lt j h.symm
        omega))
      have HR2 := Lib.hid (show Sat w' b (clrL L (k + 1)) s top from (HR.out.keep (Touch.alloc (fun _ => False) w1 _) (fun h => h)).keep (Touch.grown hgr) (fun h => by
        have := HOWN.out.lt b h.symm
        omega))
      clear hown hgr hnil
      go_wp2_with (fail)
      go_light
      go_roundw
      case rel =>
        refine ⟨k + 1, by omega, by go_num, ?_, HR2.out, HT2.out⟩
        rw [ht.out, List.length_append, ints, List.map_append]; exact HN.out
      case measure => simp [intOf]; omega
    · have HR := Lib.hid hr
      clear hown hb hr
      obtain rfl : k = s := by omega
      have hb := Lib.hid (hasB_no (size := k) (i := k) (by omega))
      go_wp2_with (fail)
      refine HH.out.mono ?_
      rw [hb.out]
      rintro e w1 ⟨rfl, rfl⟩
      go_wp2_with (fail)
      go_ret
      exact ⟨_, rfl, HW.out, HR.out, HB.out⟩

theorem new_no (size top : Int) (w : World) (h : ¬ (1 ≤ size ∧ size ≤ 64 ∧ 1 ≤ top)) :
    Calls Try.prog 8 #[.int .i64 size, .int .i64 top] w fun e w' => e = .returned (.tuple #[.pointer none, .int .i64 1]) ∧ w = w' := by
  by_cases h1 : 1 ≤ size
  · by_cases h2 : size ≤ 64
    · have h3 : ¬ 1 ≤ top := by omega
      clear h
      go_enter Try.func8, Try.ntmps8
      go_wp2
      go_ret2
      exact ⟨rfl, rfl⟩
    all_goals
      clear h
      go_enter Try.func8, Try.ntmps8
      go_wp2
      go_ret2
      exact ⟨rfl, rfl⟩
  all_goals
    clear h
    go_enter Try.func8, Try.ntmps8
    go_wp2
    go_ret2
    exact ⟨rfl, rfl⟩
def zeroL : List Int := List.replicate 64 0
def zrow : Array Value := (satCells zeroL 0 0).toArray
theorem zero54 (w : World) : (zeroValue 54).run Try.prog w = .ok (.agg zrow) w := by kernel_rfl
theorem zrow_size : zrow.size = 66 := by decide
theorem zrow_set (a b : Int) : (zrow.setIfInBounds 64 (.int .i64 a)).setIfInBounds 65 (.int .i64 b) = (satCells zeroL a b).toArray := by
  unfold zrow satCells
  simp only [List.setIfInBounds_toArray]
  rw [List.set_append_right _ _ (by decide), List.set_append_right _ _ (by decide)]
  rfl
set_option maxRecDepth 100000 in
theorem new_yes (size top : Int) (w : World) (h1 : 1 ≤ size) (h2 : size ≤ 64) (h3 : 1 ≤ top) :
    Calls Try.prog 8 #[.int .i64 size, .int .i64 top] w fun e w' => e = .returned (.tuple #[.pointer (some ⟨w.heap.size, 0, none⟩), .int .i64 0]) ∧ w.alloc (.cells (satCells zeroL size top).toArray 54) = w' := by
  go_enter Try.func8, Try.ntmps8
  have hz := zero54
  have hzs := zrow_size
  have hset := zrow_set
  go_wp2
  go_ret2
  exact ⟨rfl, rfl⟩
end Go.Proofs.Ytofjmlnoljigfaa
