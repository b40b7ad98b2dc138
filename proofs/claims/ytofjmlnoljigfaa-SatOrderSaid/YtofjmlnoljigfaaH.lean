/- What the law's own known case answers. No condition. -/
import Derived.Test.YtofjmlnoljigfaaG
import Derived.Deep.Light
set_option linter.unusedVariables false
set_option linter.unusedSimpArgs false
namespace Go.Proofs.Ytofjmlnoljigfaa
open Go.RowKit

theorem below_then {S : Nat → Prop} {B : Nat} {w w1 w2 : World} (h : Below B w w1) (hB : B ≤ w.heap.size) (t : Touch S w1 w2) (hs : ∀ i, i < B → ¬ S i) : Below B w w2 :=
  ⟨t.os.trans h.os, t.tape.trans h.tape, t.output.trans h.output, Nat.le_trans h.size t.size, fun i hi => (t.block i (by have := h.size; omega) (hs i hi)).trans (h.block i hi)⟩

theorem own_keep {S : Nat → Prop} {w w' : World} {B : Nat} {v : Value} {l : List Int} (h : w.ownsRow B 3 1 v l.length (ints l)) (t : Touch S w w') (hs : ∀ g, B ≤ g → g < w.heap.size → ¬ S g) : w'.ownsRow B 3 1 v l.length (ints l) := by
  refine ⟨h.1, ?_⟩
  rcases h.2 with h | ⟨g, cap, cur, hv, hB, hg, hn, hm, hcs, ht⟩
  · exact .inl h
  · have hlt := (Array.getElem?_eq_some_iff.1 hg).1
    exact .inr ⟨g, cap, cur, hv, hB, (t.block g hlt (hs g hB hlt)).trans hg, hn, hm, hcs, ht⟩

def k1 : List Int := addL zeroL 2 10 1 7
def k2 : List Int := addL k1 2 10 1 7
def k3 : List Int := addL k2 2 10 0 1
def k4 : List Int := addL k3 2 10 5 1
def kc : List Int := mergeTo zeroL k4 2 10 (Int.toNat 2)
def kz : List Int := clrL k4 (Int.toNat 2)
def km : List Int := mergeTo kz kc 2 10 (Int.toNat 2)
theorem kfacts : atV k1 2 1 = 7 ∧ atV k2 2 1 = 10 ∧ atV k3 2 0 = 1 ∧ atV k4 2 5 = 0 ∧ sumL 10 (allL k4 2) = 10 ∧ allL k4 2 = [1, 10] ∧ allL km 2 = [1, 10] ∧ atV km 2 1 = 10 ∧ atV km 2 (-1) = 0 := by decide +kernel
theorem kok : SatOk zeroL 2 10 := zeroL_ok (by decide) (by decide) (by decide) (by decide)
theorem kok1 : SatOk k1 2 10 := addL_ok kok _ _
theorem kok2 : SatOk k2 2 10 := addL_ok kok1 _ _
theorem kok3 : SatOk k3 2 10 := addL_ok kok2 _ _
theorem kok4 : SatOk k4 2 10 := addL_ok kok3 _ _
theorem kokc : SatOk kc 2 10 := mergeTo_ok kok _ _
theorem kokz : SatOk kz 2 10 := clrL_ok kok4 _ (by decide)
theorem kokm : SatOk km 2 10 := mergeTo_ok kokz _ _

set_option maxRecDepth 100000 in
set_option maxHeartbeats 1000000 in
theorem known_any (w : World) : Calls Try.prog 21 #[] w fun e w' => e = .returned (.bool true) ∧ Below w.heap.size w w' := by
  obtain ⟨f1, f2, f3, f4, f5, f6, f7, f8, f9⟩ := kfacts
  have HN := Lib.hid (new_yes 2 10 w (by decide) (by decide) (by decide))
  have HN2 := Lib.hid (fun w => new_no 0 10 w (by decide))
  have T0 := Touch.alloc (fun _ => False) w (.cells (satCells zeroL 2 10).toArray 54)
  have R0 := Lib.hid (zeroSat w 2 10)
  have hsz : w.heap.size < (w.alloc (.cells (satCells zeroL 2 10).toArray 54)).heap.size := by simp
  generalize hA : w.alloc (.cells (satCells zeroL 2 10).toArray 54) = w0 at *
  have TB0 := Lib.hid (T0.below (Nat.le_refl _) (fun _ _ h => h))
  clear T0
  generalize hBe : w.heap.size = B at *
  have hB1 := Lib.hid (show B ≤ w.heap.size by omega)
  clear hBe
  clear hA
  go_enter Try.func21, Try.ntmps21
  go_wp2_with (fail)
  refine HN.out.mono ?_
  rintro e w1 ⟨rfl, rfl⟩
  go_wp2_with (fail)
  refine (HN2.out _).mono ?_
  rintro e w1 ⟨rfl, rfl⟩
  go_wp2_with (fail)
  refine (add_any R0.out kok 1 7 (by decide)).mono ?_
  rw [show addL zeroL 2 10 1 7 = k1 from rfl, f1]
  rintro e w1 ⟨rfl, r, t⟩
  have R1 := Lib.hid r
  have TB1 := Lib.hid (below_then TB0.out hB1.out t (fun i hi h => by omega))
  clear r t R0 TB0
  go_wp2_with (fail)
  refine (add_any R1.out kok1 1 7 (by decide)).mono ?_
  rw [show addL k1 2 10 1 7 = k2 from rfl, f2]
  rintro e w2 ⟨rfl, r, t⟩
  have R2 := Lib.hid r
  have TB2 := Lib.hid (below_then TB1.out hB1.out t (fun i hi h => by omega))
  clear r t R1 TB1
  go_wp2_with (fail)
  refine (add_any R2.out kok2 0 1 (by decide)).mono ?_
  rw [show addL k2 2 10 0 1 = k3 from rfl, f3]
  rintro e w3 ⟨rfl, r, t⟩
  have R3 := Lib.hid r
  have TB3 := Lib.hid (below_then TB2.out hB1.out t (fun i hi h => by omega))
  clear r t R2 TB2
  go_wp2_with (fail)
  refine (add_any R3.out kok3 5 1 (by decide)).mono ?_
  rw [show addL k3 2 10 5 1 = k4 from rfl, f4]
  rintro e w4 ⟨rfl, r, t⟩
  have R4 := Lib.hid r
  have TB4 := Lib.hid (below_then TB3.out hB1.out t (fun i hi h => by omega))
  clear r t R3 TB3
  go_wp2_with (fail)
  refine (sum_any R4.out kok4).mono ?_
  rw [f5]
  rintro e w5 ⟨rfl, t⟩
  have R5 := Lib.hid (R4.out.keep (Touch.of_below t (fun _ => False)) (fun x => x))
  have TB5 := Lib.hid (below_then TB4.out hB1.out (Touch.of_below t (fun _ => False)) (fun _ _ x => x))
  clear t R4 TB4
  go_wp2_with (fail)
  refine (copy_any R5.out kok4).mono ?_
  rw [show mergeTo zeroL k4 2 10 (Int.toNat 2) = kc from rfl]
  rintro e w6 ⟨rfl, rc, t, hcs⟩
  have R6 := Lib.hid (R5.out.keep (Touch.of_below t (fun _ => False)) (fun x => x))
  have RC6 := Lib.hid rc
  have TB6 := Lib.hid (below_then TB5.out hB1.out (Touch.of_below t (fun _ => False)) (fun _ _ x => x))
  have hlt : B < w5.heap.size := R5.out.blk.lt
  generalize w5.heap.size = c at *
  have hne : c ≠ B := by omega
  clear t R5 TB5 rc hcs
  go_wp2_with (fail)
  refine (clear_any R6.out kok4).mono ?_
  rw [show clrL k4 (Int.toNat 2) = kz from rfl, f6]
  rintro e w7 ⟨v, rfl, hv, r, t⟩
  have R7 := Lib.hid r
  have RC7 := Lib.hid (RC6.out.keep t hne)
  have TB7 := Lib.hid (below_then TB6.out hB1.out t (fun i hi h => by omega))
  have hlt2 : B < w6.heap.size := R6.out.blk.lt
  have HV7 := Lib.hid hv
  clear r t R6 TB6 RC6 hv
  go_wp2_with (fail)
  refine (merge_any R7.out kokz RC7.out kokc (Ne.symm hne)).mono ?_
  rw [show mergeTo kz kc 2 10 (Int.toNat 2) = km from rfl]
  rintro e w8 ⟨rfl, r, t⟩
  have R8 := Lib.hid r
  have TB8 := Lib.hid (below_then TB7.out hB1.out t (fun i hi h => by omega))
  have HV8 := Lib.hid (own_keep HV7.out t (fun g h1 h2 h3 => by omega))
  have hv := own_open HV7.out
  clear r t R7 TB7 RC7 HV7
  rcases hv with ⟨rfl, hv⟩ | ⟨g, cap, rfl, hg, -, -, -, -, -⟩
  · cases hv
  simp only [List.length_cons, List.length_nil, Nat.zero_add, Nat.reduceAdd] at HV8 ⊢
  go_wp2_with (fail)
  refine (ints_any (l := [1, 10]) (SL.of_own (HV8.out.alloc _)) (SL.of_blk (Blk.new w8 (ints [1, 10]) 3)) (by decide)).mono ?_
  rintro e w9 ⟨rfl, n9, rfl⟩
  have T9 : Touch (fun _ => False) w8 ((w8.alloc (.cells (ints [1, 10]).toArray 3)).drewN n9) := (Touch.alloc (fun _ => False) w8 _).drewN n9
  have R9 := Lib.hid (R8.out.keep T9 (fun x => x))
  have TB9 := Lib.hid (below_then TB8.out hB1.out T9 (fun _ _ x => x))
  have HV9 := Lib.hid (own_keep HV8.out T9 (fun _ _ _ x => x))
  clear T9 R8 TB8 HV8
  generalize hW9 : (w8.alloc (.cells (ints [1, 10]).toArray 3)).drewN n9 = w9 at *
  clear hW9
  go_wp2_with (fail)
  refine (all_any R9.out (by decide) (by decide)).mono ?_
  rw [f7]
  rintro e w10 ⟨v, rfl, hv, t⟩
  have R10 := Lib.hid (R9.out.keep (Touch.of_below t (fun _ => False)) (fun x => x))
  have TB10 := Lib.hid (below_then TB9.out hB1.out (Touch.of_below t (fun _ => False)) (fun _ _ x => x))
  have HV10 := Lib.hid (own_keep HV9.out (Touch.of_below t (fun _ => False)) (fun _ _ _ x => x))
  have HU10 := Lib.hid hv
  clear hv t R9 TB9 HV9
  go_wp2_with (fail)
  refine (ints_any (l := [1, 10]) (SL.of_own HU10.out) (SL.of_own HV10.out) (by decide)).mono ?_
  rintro e w11 ⟨rfl, n11, rfl⟩
  have T11 : Touch (fun _ => False) w10 (w10.drewN n11) := (Touch.refl (fun _ => False) w10).drewN n11
  have R11 := Lib.hid (R10.out.keep T11 (fun x => x))
  have TB11 := Lib.hid (below_then TB10.out hB1.out T11 (fun _ _ x => x))
  clear T11 R10 TB10 HV10 HU10
  go_wp2_with (fail)
  refine (at_any R11.out (by decide) 1).mono ?_
  rw [f8]
  rintro e w12 ⟨rfl, rfl⟩
  go_wp2_with (fail)
  refine (at_any R11.out (by decide) (-1)).mono ?_
  rw [f9]
  rintro e w12 ⟨rfl, rfl⟩
  go_wp2_with (fail)
  refine (merge_nil R11.out (by decide)).mono ?_
  rintro e w12 ⟨rfl, rfl⟩
  go_wp2_with (fail)
  go_ret
  exact ⟨rfl, TB11.out⟩
end Go.Proofs.Ytofjmlnoljigfaa
