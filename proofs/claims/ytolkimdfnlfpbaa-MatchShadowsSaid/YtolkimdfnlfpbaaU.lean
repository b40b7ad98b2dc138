/- What Shadowed answers. Conditions: the rules stand there; lengths fit. -/
import Derived.Test.YtolkimdfnlfpbaaT
import Derived.Deep.Light
import Derived.Laws.Rows
set_option linter.unusedVariables false
set_option linter.unusedSimpArgs false
namespace Go.Proofs.Ytolkimdfnlfpbaa
open Go.RowKit

def shadB (R : Nat → Rl) (i : Nat) : Bool := (List.range i).any fun k => coversB (R k) (R i)
def shadL (R : Nat → Rl) : Nat → List Int
  | 0 => []
  | i + 1 => if shadB R i then shadL R i ++ [(i : Int)] else shadL R i
theorem shadL_len (R : Nat → Rl) (i : Nat) : (shadL R i).length ≤ i := by
  induction i with
  | zero => exact Nat.le_refl _
  | succ i ih =>
    unfold shadL
    split
    · rw [List.length_append]; simp; omega
    · omega
theorem shadB_yes {R : Nat → Rl} {i k : Nat} (hk : k < i) (h : coversB (R k) (R i) = true) : shadB R i = true := List.any_eq_true.2 ⟨k, List.mem_range.2 hk, h⟩
theorem shadB_no {R : Nat → Rl} {i : Nat} (h : ∀ k, k < i → coversB (R k) (R i) = false) : shadB R i = false := by
  rw [Bool.eq_false_iff]
  intro hh
  obtain ⟨k, hk, h1⟩ := List.any_eq_true.1 hh
  rw [h k (List.mem_range.1 hk)] at h1
  cases h1

set_option maxRecDepth 100000 in
set_option maxHeartbeats 4000000 in
theorem shadowed_any (ad : Option Addr) (len cap : Nat) (R : Nat → Rl) (w : World) (h : RulesAt w ad len R) (hlc : len ≤ cap) (hcap : cap ≤ maxLen) (h60 : len ≤ 60) (hsm : SmallR R len) :
    Calls Try.prog 21 #[.slice ad len cap] w fun e w' => ∃ v, e = .returned v ∧ w'.ownsRow w.heap.size 3 1 v (shadL R len).length (ints (shadL R len)) ∧ Below w.heap.size w w' := by
  obtain ⟨i0, hi, hz0, hz1, hz2⟩ := info_parts info3
  have HR := Lib.hid h
  have HSM := Lib.hid hsm
  clear h hsm
  have hcapi : (cap : Int) ≤ 9223372036854775807 := by unfold maxLen at hcap; omega
  go_enter Try.func21, Try.ntmps21
  go_wp2_with (fail)
  go_loopw [3, 10] (fun v i wr => ∃ k : Nat, k ≤ len ∧ i = .int .i64 k ∧ wr.ownsRow w.heap.size 3 1 v (shadL R k).length (ints (shadL R k)) ∧ Touch (fun _ => False) w wr) (fun _ i _ => len - (intOf i).toNat)
  case atStart => exact ⟨0, Nat.zero_le _, rfl, World.ownsRow_nil _ _ _ _, Touch.refl _ _⟩
  case round =>
    obtain ⟨k, hk, rfl, hown, ht⟩ := hrel
    have HW := Lib.hid hown
    have HT := Lib.hid ht
    clear hown ht
    by_cases hlt : k < len
    · obtain ⟨b, off, rfl, hb, hc⟩ := (HR.out.keep HT.out) k hlt
      have hki : (k : Int) < len := by omega
      have hsr := HSM.out k hlt
      generalize hr : R k = r at *
      have HRE := Lib.hid hr
      clear hr
      have e0 := hc 0 _ rfl
      have e1 := hc 1 _ rfl
      have e2 := hc 2 _ rfl
      have e3 := hc 3 _ rfl
      have e4 := hc 4 _ rfl
      have e5 := hc 5 _ rfl
      have e6 := hc 6 _ rfl
      have e7 := hc 7 _ rfl
      have e8 := hc 8 _ rfl
      have e9 := hc 9 _ rfl
      have e10 := hc 10 _ rfl
      have e11 := hc 11 _ rfl
      have e12 := hc 12 _ rfl
      rw [Nat.add_zero] at e0
      clear hc
      go_upto_region 5 with (fail)
      obtain ⟨wx, hwx, hN, hT⟩ : ∃ wx, wr.alloc (.cells #[(.bool r.acc : Value), .int .i64 r.side, .string r.fb, .int .i64 r.fn, .string r.tb, .int .i64 r.tn, .int .i64 r.s0, .int .i64 r.s1, .int .i64 r.d0, .int .i64 r.d1, .int .i64 r.mask, .int .i64 r.flags, .int .i64 r.classes] 43) = wx ∧ Blk wx wr.heap.size r.cs 43 ∧ Touch (fun _ => False) wr wx := ⟨_, rfl, Blk.new wr r.cs 43, Touch.alloc _ _ _⟩
      rw [hwx]
      clear hwx e0 e1 e2 e3 e4 e5 e6 e7 e8 e9 e10 e11 e12
      have TX := Lib.hid hT
      have HN := Lib.hid hN
      have htx : wr.heap.size < wx.heap.size := hN.lt
      generalize wr.heap.size = t at *
      clear hN hT
      have hle : (k : Int) ≤ cap := by omega
      go_wp2_with (fail)
      go_loopw [3, 19] (fun x i wi => ∃ j : Nat, j ≤ k ∧ x = u3 ∧ i = .int .i64 j ∧ (∀ m, m < j → coversB (R m) r = false) ∧ Touch (fun _ => False) wx wi) (fun _ i _ => k - (intOf i).toNat)
      case atStart => exact ⟨0, Nat.zero_le _, rfl, rfl, fun m h => by omega, Touch.refl _ _⟩
      case round =>
        obtain ⟨j, hj, rfl, rfl, hz, hti⟩ := hrel
        have HZ := Lib.hid hz
        have HTI := Lib.hid hti
        clear hz hti
        by_cases hjk : j < k
        · obtain ⟨b2, off2, hab, hb2, hc⟩ := (((HR.out.keep HT.out).keep TX.out).keep HTI.out) j (by omega)
          simp only [Option.some.injEq, Addr.mk.injEq, and_true] at hab
          obtain ⟨rfl, rfl⟩ := hab
          have hji : (j : Int) < k := by omega
          have hsq := HSM.out j (by omega)
          generalize hq : R j = q at *
          have HQE := Lib.hid hq
          clear hq
          have f0 := hc 0 _ rfl
          have f1 := hc 1 _ rfl
          have f2 := hc 2 _ rfl
          have f3 := hc 3 _ rfl
          have f4 := hc 4 _ rfl
          have f5 := hc 5 _ rfl
          have f6 := hc 6 _ rfl
          have f7 := hc 7 _ rfl
          have f8 := hc 8 _ rfl
          have f9 := hc 9 _ rfl
          have f10 := hc 10 _ rfl
          have f11 := hc 11 _ rfl
          have f12 := hc 12 _ rfl
          rw [Nat.add_zero] at f0
          clear hc
          go_upto_region 8 with (fail)
          obtain ⟨wy, hwy, hN2, hT2⟩ : ∃ wy, wr.alloc (.cells #[(.bool q.acc : Value), .int .i64 q.side, .string q.fb, .int .i64 q.fn, .string q.tb, .int .i64 q.tn, .int .i64 q.s0, .int .i64 q.s1, .int .i64 q.d0, .int .i64 q.d1, .int .i64 q.mask, .int .i64 q.flags, .int .i64 q.classes] 43) = wy ∧ Blk wy wr.heap.size q.cs 43 ∧ Touch (fun _ => False) wr wy := ⟨_, rfl, Blk.new wr q.cs 43, Touch.alloc _ _ _⟩
          rw [hwy]
          clear hwy f0 f1 f2 f3 f4 f5 f6 f7 f8 f9 f10 f11 f12
          have TY := Lib.hid (HTI.out.trans hT2 (fun _ _ h => h))
          have hNr := HN.out.keep TY.out (fun h => h)
          generalize wr.heap.size = t2 at *
          clear hT2
          have HC := Lib.hid (covers_any q r hsq.1 hsq.2 hsr.1 hsr.2)
          generalize hcv : coversB q r = cv at *
          have HCV := Lib.hid hcv
          clear hcv
          go_wp2_with (first | (refine wpList_load_row rfl 43 _ rfl t2 rfl 43 #[.bool q.acc, .int .i64 q.side, .string q.fb, .int .i64 q.fn, .string q.tb, .int .i64 q.tn, .int .i64 q.s0, .int .i64 q.s1, .int .i64 q.d0, .int .i64 q.d1, .int .i64 q.mask, .int .i64 q.flags, .int .i64 q.classes] (0, 0) _ hN2 Try.underlying43 rfl (by kernel_rfl) ?_) | (refine wpList_load_row rfl 43 _ rfl t rfl 43 #[.bool r.acc, .int .i64 r.side, .string r.fb, .int .i64 r.fn, .string r.tb, .int .i64 r.tn, .int .i64 r.s0, .int .i64 r.s1, .int .i64 r.d0, .int .i64 r.d1, .int .i64 r.mask, .int .i64 r.flags, .int .i64 r.classes] (0, 0) _ hNr Try.underlying43 rfl (by kernel_rfl) ?_))
          refine (HC.out _).mono ?_
          rintro e w3 ⟨rfl, hb3⟩
          have T3 := Lib.hid (TY.out.trans (Touch.none hb3) (fun _ _ h => h))
          clear hb3 hNr hN2 TY
          cases cv with
          | false =>
            go_wp2_with (fail)
            refine ⟨⟨j + 1, by omega, rfl, by go_num, fun m hm => ?_, T3.out⟩, by simp [intOf]; omega⟩
            by_cases e : m = j
            · rw [e, HQE.out]; exact HCV.out
            · exact HZ.out m (by omega)
          | true =>
            have HS := Lib.hid (shadB_yes (R := R) hjk (by rw [HQE.out, HRE.out]; exact HCV.out))
            have HOW := Lib.hid (own_keep HW.out (TX.out.trans T3.out (fun _ _ h => h)) (fun _ _ _ h => h))
            have hll := shadL_len R k
            have HLL := Lib.hid hll
            clear hll
            go_wp2_with (at_builtin; refine wpList_append_own _ rfl _ _ 55 rfl w.heap.size 3 i0 (.int .i64 0) 1 8 Try.underlying55 hi hz0 hz1 hz2 rfl (by decide) u3 (shadL R k).length (ints (shadL R k)) rfl ?hown ⟨w3.heap.size, 0, none⟩ 1 1 (ints [(k : Int)]) rfl ?hl ?hnews ?hone ?h63 ?hbytes ?hbase ?h)
            case hown => exact HOW.out.alloc _
            case hl => rfl
            case hnews => exact one_cell w3 _ _
            case hone => exact ints_one [(k : Int)]
            case h63 => have := HLL.out; unfold maxLen; omega
            case hbytes => have := HLL.out; omega
            case hbase => exact Nat.le_trans ((HT.out.trans TX.out (fun _ _ h => h)).trans T3.out (fun _ _ h => h)).size (by simp)
            intro v' w' hown hgr hnil
            have HNW := Lib.hid hown
            have HT2 := Lib.hid (show Touch (fun _ => False) w w' from ((((HT.out.trans TX.out (fun _ _ h => h)).trans T3.out (fun _ _ h => h)).trans (Touch.alloc (fun _ => False) w3 _) (fun _ _ h => h)).trans (Touch.grown hgr) (fun i hi h => by
              have := (HOW.out.lt i h.symm)
              omega)))
            clear hown hgr hnil
            go_wp2_with (fail)
            refine ⟨⟨k + 1, by omega, by go_num, ?_, HT2.out⟩, by simp [intOf]; omega⟩
            have e : shadL R (k + 1) = shadL R k ++ [(k : Int)] := if_pos HS.out
            rw [e, List.length_append, ints, List.map_append]
            exact HNW.out
        · obtain rfl : j = k := by omega
          have HS := Lib.hid (shadB_no (R := R) (i := j) (by rw [HRE.out]; exact HZ.out))
          have HOW := Lib.hid (own_keep HW.out (TX.out.trans HTI.out (fun _ _ h => h)) (fun _ _ _ h => h))
          have HT2 := Lib.hid ((HT.out.trans TX.out (fun _ _ h => h)).trans HTI.out (fun _ _ h => h))
          go_wp2_with (fail)
          refine ⟨⟨j + 1, by omega, by go_num, ?_, HT2.out⟩, by simp [intOf]; omega⟩
          have e : shadL R (j + 1) = shadL R j := if_neg (by rw [HS.out]; decide)
          rw [e]
          exact HOW.out
    · obtain rfl : k = len := by omega
      go_wp2_with (fail)
      go_ret
      exact ⟨_, rfl, HW.out, HT.out.toBelow⟩
end Go.Proofs.Ytolkimdfnlfpbaa
