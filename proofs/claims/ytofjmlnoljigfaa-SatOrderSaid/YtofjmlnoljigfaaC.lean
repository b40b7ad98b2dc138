/- What Add, At, All, Sum, Clear, New of sat.Row answer. Conditions: the receiver is a row that stands there. -/
import Derived.Test.YtofjmlnoljigfaaB
import Derived.Deep.Light
set_option linter.unusedVariables false
set_option linter.unusedSimpArgs false
namespace Go.Proofs.Ytofjmlnoljigfaa
open Go.RowKit

/-- A row as New makes it, and as it stays. -/
structure SatOk (L : List Int) (size top : Int) : Prop where
  len : L.length = 64
  s1 : 1 ≤ size
  s2 : size ≤ 64
  t1 : 1 ≤ top
  t2 : top ≤ 9223372036854775807
  c : ∀ i, 0 ≤ L.getD i 0 ∧ L.getD i 0 ≤ top
def addL (L : List Int) (size top i n : Int) : List Int := if 0 ≤ i ∧ i < size ∧ 0 < n then L.set i.toNat (moreI top (L.getD i.toNat 0) n) else L
def atV (L : List Int) (size i : Int) : Int := if 0 ≤ i ∧ i < size then L.getD i.toNat 0 else 0
theorem moreI_le (top n k : Int) (h0 : 0 ≤ n) (h1 : n ≤ top) (h3 : 0 ≤ k) : n ≤ moreI top n k ∧ moreI top n k ≤ top := by unfold moreI; split <;> omega
theorem getD_set (L : List Int) (i j : Nat) (v : Int) : (L.set i v).getD j 0 = if i = j ∧ i < L.length then v else L.getD j 0 := by
  simp only [List.getD_eq_getElem?_getD, List.getElem?_set]
  split
  · rename_i h; subst h
    split
    · simp [*]
    · simp [*]
  · rename_i h; simp [h]
theorem addL_ok {L : List Int} {size top : Int} (h : SatOk L size top) (i n : Int) : SatOk (addL L size top i n) size top := by
  unfold addL
  split
  · rename_i hi
    refine ⟨by simp [h.len], h.s1, h.s2, h.t1, h.t2, fun j => ?_⟩
    rw [getD_set]
    split
    · have := h.c i.toNat
      have := moreI_le top (L.getD i.toNat 0) n this.1 this.2 (by omega)
      omega
    · exact h.c j
  · exact h

theorem add_any {w : World} {b : Nat} {L : List Int} {size top : Int} (h : Sat w b L size top) (ok : SatOk L size top) (i n : Int) (hn : n ≤ 9223372036854775807) :
    Calls Try.prog 10 #[.pointer (some ⟨b, 0, none⟩), .int .i64 i, .int .i64 n] w fun e w' => e = .returned (.int .i64 (atV (addL L size top i n) size i)) ∧ Sat w' b (addL L size top i n) size top ∧ Touch (· = b) w w' := by
  have hh := fun i => has_any h i
  by_cases hi : 0 ≤ i ∧ i < size
  · have hb := Lib.hid (hasB_yes hi)
    have hs := ok.s2
    obtain ⟨j, rfl⟩ := Int.eq_ofNat_of_zero_le hi.1
    have hj : j < 64 := by omega
    have c := h.count j hj
    have f := h.blk.frozen j
    have hc := ok.c j
    have hld := load_any c
    by_cases hp : 0 < n
    · have hm := more_any h (L.getD j 0) n hc.1 hc.2 ok.t2 (by omega) hn
      have hst := store_any c f (moreI top (L.getD j 0) n)
      have hset := Lib.hid (h.set j hj (moreI top (L.getD j 0) n))
      have ha : addL L size top j n = L.set j (moreI top (L.getD j 0) n) := by unfold addL; rw [if_pos ⟨by omega, hi.2, hp⟩]; rfl
      have hv : atV (L.set j (moreI top (L.getD j 0) n)) size j = moreI top (L.getD j 0) n := by
        unfold atV; rw [if_pos hi, Int.toNat_natCast, getD_set, if_pos ⟨rfl, by rw [h.len]; exact hj⟩]
      rw [ha, hv]
      have HH := Lib.hid hh
      have HL := Lib.hid hld
      have HM := Lib.hid hm
      have HS := Lib.hid hst
      clear hh hld hm hst c f ha hv h hc
      generalize moreI top (L.getD j 0) n = m at *
      generalize L.getD j 0 = x at *
      go_enter Try.func10, Try.ntmps10
      go_wp2_with (fail)
      refine (HH.out _).mono ?_
      rw [hb.out]
      rintro e w1 ⟨rfl, rfl⟩
      go_wp2_with (fail)
      refine HL.out.mono ?_
      rintro e w1 ⟨rfl, rfl⟩
      go_wp2_with (fail)
      refine HM.out.mono ?_
      rintro e w1 ⟨rfl, rfl⟩
      go_wp2_with (fail)
      refine HS.out.mono ?_
      rintro e w1 ⟨rfl, rfl⟩
      go_wp2_with (fail)
      go_ret
      exact ⟨rfl, hset.out, Touch.setCell _ _ _ _⟩
    · have ha : addL L size top j n = L := by unfold addL; rw [if_neg (by omega)]
      have hv : atV L size j = L.getD j 0 := by unfold atV; rw [if_pos hi]; rfl
      rw [ha, hv]
      have HH := Lib.hid hh
      have HL := Lib.hid hld
      have H := Lib.hid h
      clear hh hld c f ha hv h hc
      generalize L.getD j 0 = x at *
      go_enter Try.func10, Try.ntmps10
      go_wp2_with (fail)
      refine (HH.out _).mono ?_
      rw [hb.out]
      rintro e w1 ⟨rfl, rfl⟩
      go_wp2_with (fail)
      refine HL.out.mono ?_
      rintro e w1 ⟨rfl, rfl⟩
      go_wp2_with (fail)
      go_ret
      exact ⟨rfl, H.out, Touch.refl _ _⟩
  · have hb := Lib.hid (hasB_no hi)
    have ha : addL L size top i n = L := by unfold addL; rw [if_neg (by omega)]
    have hv : atV L size i = 0 := by unfold atV; rw [if_neg hi]
    rw [ha, hv]
    have HH := Lib.hid hh
    have H := Lib.hid h
    clear hh ha hv h
    go_enter Try.func10, Try.ntmps10
    go_wp2_with (fail)
    refine (HH.out _).mono ?_
    rw [hb.out]
    rintro e w1 ⟨rfl, rfl⟩
    go_wp2_with (fail)
    go_ret
    exact ⟨rfl, H.out, Touch.refl _ _⟩

theorem at_any {w : World} {b : Nat} {L : List Int} {size top : Int} (h : Sat w b L size top) (hs : size ≤ 64) (i : Int) :
    Calls Try.prog 19 #[.pointer (some ⟨b, 0, none⟩), .int .i64 i] w fun e w' => e = .returned (.int .i64 (atV L size i)) ∧ w = w' := by
  have hh := fun i => has_any h i
  by_cases hi : 0 ≤ i ∧ i < size
  · have hb := Lib.hid (hasB_yes hi)
    obtain ⟨j, rfl⟩ := Int.eq_ofNat_of_zero_le hi.1
    have hj : j < 64 := by omega
    have hld := load_any (h.count j hj)
    have hv : atV L size j = L.getD j 0 := by unfold atV; rw [if_pos hi]; rfl
    rw [hv]
    have HH := Lib.hid hh
    have HL := Lib.hid hld
    clear hh hld hv h
    generalize L.getD j 0 = x at *
    go_enter Try.func19, Try.ntmps19
    go_wp2_with (fail)
    refine (HH.out _).mono ?_
    rw [hb.out]
    rintro e w1 ⟨rfl, rfl⟩
    go_wp2_with (fail)
    refine HL.out.mono ?_
    rintro e w1 ⟨rfl, rfl⟩
    go_wp2_with (fail)
    go_ret
    exact ⟨rfl, rfl⟩
  · have hb := Lib.hid (hasB_no hi)
    have hv : atV L size i = 0 := by unfold atV; rw [if_neg hi]
    rw [hv]
    have HH := Lib.hid hh
    clear hh hv h
    go_enter Try.func19, Try.ntmps19
    go_wp2_with (fail)
    refine (HH.out _).mono ?_
    rw [hb.out]
    rintro e w1 ⟨rfl, rfl⟩
    go_wp2_with (fail)
    go_ret
    exact ⟨rfl, rfl⟩

theorem one_cell (w : World) (e : TypeId) (v : Value) :
    ∀ (j : Nat) (u : Value), [v][j]? = some u → (w.alloc (.cells #[v] e)).cell? ((⟨w.heap.size, 0, none⟩ : Addr).add j) = some u := by
  intro j u hu
  have : (⟨w.heap.size, 0, none⟩ : Addr).add j = ⟨w.heap.size, j, none⟩ := by unfold Addr.add; split <;> simp_all
  rw [this, World.cell?_alloc_at _ _ _ _ rfl]
  simpa using hu
def ints (l : List Int) : List Value := l.map (.int .i64)
theorem ints_one (l : List Int) : ∀ u ∈ ints l, u.oneCell' = true := by
  intro u hu
  obtain ⟨b, _, rfl⟩ := List.mem_map.1 hu
  rfl
theorem info3 : (Try.prog.info? 3).map (fun i => (i.zero, i.size, i.bytes)) = some (some (.int .i64 0), 1, 8) := by kernel_rfl
theorem take_one {α : Type} (l : List α) (k : Nat) (d : α) (h : k < l.length) : l.take (k + 1) = l.take k ++ [l.getD k d] := by
  rw [List.take_succ_eq_append_getElem h]
  simp [List.getD_eq_getElem?_getD, h]
/-- The counters of a row. -/
def allL (L : List Int) (size : Int) : List Int := L.take size.toNat

theorem all_nil (w : World) : Calls Try.prog 16 #[.pointer none] w fun e w' => e = .returned (.slice none 0 0) ∧ w = w' := by
  have HH := Lib.hid has_nil
  go_enter Try.func16, Try.ntmps16
  go_wp2_with (fail)
  refine wp_loop_once ?_
  go_wp2_with (fail)
  refine (HH.out _ _).mono ?_
  rintro e w1 ⟨rfl, rfl⟩
  go_wp2_with (fail)
  go_ret
  exact ⟨rfl, rfl⟩

set_option maxRecDepth 100000 in
theorem all_any {w : World} {b : Nat} {L : List Int} {size top : Int} (h : Sat w b L size top) (hs0 : 0 ≤ size) (hs : size ≤ 64) :
    Calls Try.prog 16 #[.pointer (some ⟨b, 0, none⟩)] w fun e w' => ∃ v, e = .returned v ∧ w'.ownsRow w.heap.size 3 1 v (allL L size).length (ints (allL L size)) ∧ Below w.heap.size w w' := by
  obtain ⟨s, rfl⟩ := Int.eq_ofNat_of_zero_le hs0
  obtain ⟨i0, hi, hz0, hz1, hz2⟩ := info_parts info3
  have hlen := h.len
  have H := Lib.hid h
  clear h hs0
  have hs' : s ≤ 64 := by omega
  unfold allL
  rw [Int.toNat_natCast]
  go_enter Try.func16, Try.ntmps16
  go_wp2
  go_loopw [3, 4] (fun v i wr => ∃ k : Nat, k ≤ s ∧ i = .int .i64 k ∧ wr.ownsRow w.heap.size 3 1 v (L.take k).length (ints (L.take k)) ∧ Below w.heap.size w wr) (fun _ i _ => s - (intOf i).toNat)
  case atStart => exact ⟨0, by omega, rfl, World.ownsRow_nil _ _ _ _, Below.refl _ _⟩
  case round =>
    obtain ⟨k, hk, rfl, hown, hb⟩ := hrel
    have HW := Lib.hid hown
    have HB := Lib.hid hb
    have hr : Sat wr b L s top := H.out.keep (Touch.of_below hb (fun _ => False)) (fun x => x)
    have HH := Lib.hid (has_any hr k)
    have HA := Lib.hid (at_any hr (by omega) k)
    clear hown hb hr
    by_cases hlt : k < s
    · have hb := Lib.hid (hasB_yes (size := s) (i := k) (by omega))
      have hv : atV L s k = L.getD k 0 := by unfold atV; rw [if_pos (by omega)]; rfl
      rw [hv] at HA
      have ht := Lib.hid (take_one L k 0 (by omega))
      have hl := Lib.hid (show (L.take k).length = k by simp; omega)
      clear hv
      generalize L.getD k 0 = x at *
      generalize L.take k = l at *
      go_wp2_with (fail)
      refine HH.out.mono ?_
      rw [hb.out]
      rintro e w1 ⟨rfl, rfl⟩
      go_wp2_with (fail)
      refine HA.out.mono ?_
      rintro e w1 ⟨rfl, rfl⟩
      go_wp2_with (at_builtin; refine wpList_append_own _ rfl _ _ 34 rfl w.heap.size 3 i0 (.int .i64 0) 1 8 Try.underlying34 hi hz0 hz1 hz2 rfl (by decide) u3 l.length (ints l) rfl ?hown ⟨wr.heap.size, 0, none⟩ 1 1 (ints [x]) rfl ?hl ?hnews ?hone ?h63 ?hbytes ?hbase ?h)
      case hown => exact HW.out.alloc _
      case hl => rfl
      case hnews => exact one_cell wr _ _
      case hone => exact ints_one [x]
      case h63 => have := hl.out; unfold maxLen; omega
      case hbytes => have := hl.out; omega
      case hbase => exact Nat.le_trans HB.out.size (by simp)
      intro v' w' hown hgr hnil
      have HN := Lib.hid hown
      have HG := Lib.hid hgr
      clear hown hgr hnil
      go_wp2_with (fail)
      go_light
      go_roundw
      case rel =>
        refine ⟨k + 1, by omega, by go_num, ?_, (HB.out.alloc HB.out.size _).grown HG.out (by simp; exact Nat.le_succ_of_le HB.out.size) (fun g hg => (HW.out.lt g hg).1)⟩
        rw [ht.out, List.length_append, ints, List.map_append]; exact HN.out
      case measure => simp [intOf]; omega
    · obtain rfl : k = s := by omega
      have hb := Lib.hid (hasB_no (size := k) (i := k) (by omega))
      go_wp2_with (fail)
      refine HH.out.mono ?_
      rw [hb.out]
      rintro e w1 ⟨rfl, rfl⟩
      go_wp2_with (fail)
      go_ret
      exact ⟨_, rfl, HW.out, HB.out⟩
end Go.Proofs.Ytofjmlnoljigfaa
