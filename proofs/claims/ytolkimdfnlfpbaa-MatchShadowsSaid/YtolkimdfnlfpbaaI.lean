/- What every answers, whatever it is handed. Conditions: each thing tells. -/
import Derived.Test.YtolkimdfnlfpbaaH
import Derived.Deep.Light
set_option linter.unusedVariables false
set_option linter.unusedSimpArgs false
namespace Go.Proofs.Ytolkimdfnlfpbaa
open Go.RowKit

theorem enters {f : FuncId} {fn : Func} {c : Code} (hf : Try.prog.funcs[f]? = some fn) (hname : (fn.name == "runtime.NumGoroutine") = false) (hb : fn.body = some c) (args : Array Value) (w : World) :
    (callFunc f args).run Try.prog w = .ok (.enter f args) w := by
  have h1 : fn.name ≠ "runtime.NumGoroutine" := by simpa using hname
  simp [callFunc, hf, h1, hb]
/-- A function value that tells p, now and later. -/
def Tells (w : World) (v : Value) (p : Bool) : Prop :=
  ∃ k cap, v = .func (.func k) #[] cap ∧ (∀ w', (callFunc k cap).run Try.prog w' = .ok (.enter k cap) w') ∧ ∀ w', Touch (fun _ => False) w w' → Calls Try.prog k cap w' fun e w'' => e = .returned (.bool p) ∧ Below w'.heap.size w' w''
theorem Tells.keep {w w' : World} {v : Value} {p : Bool} (h : Tells w v p) (t : Touch (fun _ => False) w w') : Tells w' v p := by
  obtain ⟨k, cap, hv, he, hc⟩ := h
  exact ⟨k, cap, hv, he, fun w2 t2 => hc w2 (t.trans t2 (fun _ _ h => h))⟩

set_option maxRecDepth 100000 in
theorem every_any {w : World} {g : Nat} (l : List (Value × Bool)) (hl : l.length ≤ 10) (hg : g < w.heap.size) (hc : ∀ j v p, l[j]? = some (v, p) → w.cell? ⟨g, j, none⟩ = some v ∧ Tells w v p) :
    Calls Try.prog 28 #[.slice (some ⟨g, 0, none⟩) l.length l.length] w fun e w' => e = .returned (.bool (l.all (·.2))) ∧ Below w.heap.size w w' := by
  have HC := Lib.hid hc
  clear hc
  go_enter Try.func28, Try.ntmps28
  go_wp2_with (fail)
  go_loopw [7] (fun i wr => ∃ k : Nat, k ≤ l.length ∧ i = .int .i64 k ∧ (∀ j v p, j < k → l[j]? = some (v, p) → p = true) ∧ Touch (fun _ => False) w wr) (fun i _ => l.length - (intOf i).toNat)
  case atStart => exact ⟨0, Nat.zero_le _, rfl, fun j v p h => by omega, Touch.refl _ _⟩
  case round =>
    obtain ⟨k, hk, rfl, hz, ht⟩ := hrel
    have HZ := Lib.hid hz
    have HT := Lib.hid ht
    clear hz ht
    by_cases hlt : k < l.length
    · obtain ⟨⟨v, p⟩, hlk⟩ : ∃ x, l[k]? = some x := ⟨l[k], List.getElem?_eq_getElem hlt⟩
      obtain ⟨hcell, f, cap, rfl, hent, hcall⟩ := HC.out k v p hlk
      have hcell2 : wr.cell? ⟨g, k, none⟩ = some (.func (.func f) #[] cap) := by rw [← hcell]; exact HT.out.cell hg (fun h => h) k
      have HCALL := Lib.hid hcall
      have HLK := Lib.hid hlk
      clear hcall hcell hlk
      have hki : (k : Int) < l.length := by omega
      go_wp2_with (fail)
      refine (HCALL.out wr HT.out).mono ?_
      rintro e w2 ⟨rfl, hb2⟩
      have HT2 := Lib.hid (HT.out.trans (Touch.none hb2) (fun _ _ h => h))
      clear hb2
      cases p with
      | true =>
        go_wp2_with (fail)
        refine ⟨⟨k + 1, by omega, by go_num, fun j v q hj hq => ?_, HT2.out⟩, by simp [intOf]; omega⟩
        by_cases e : j = k
        · subst e
          have := HLK.out
          rw [this] at hq
          simp only [Option.some.injEq, Prod.mk.injEq] at hq
          exact hq.2.symm
        · exact HZ.out j v q (by omega) hq
      | false =>
        have hall : l.all (·.2) = false := by
          rw [Bool.eq_false_iff]; intro h
          rw [List.all_eq_true] at h
          have := h _ (List.mem_of_getElem? HLK.out)
          cases this
        go_wp2_with (fail)
        go_ret
        exact ⟨ret_bool hall.symm, HT2.out.toBelow⟩
    · obtain rfl : k = l.length := by omega
      have hall : l.all (·.2) = true := by
        rw [List.all_eq_true]
        intro x hx
        obtain ⟨j, hj, rfl⟩ := List.getElem_of_mem hx
        exact HZ.out j l[j].1 l[j].2 hj (by rw [List.getElem?_eq_getElem hj])
      go_wp2_with (fail)
      go_ret
      exact ⟨ret_bool hall.symm, HT.out.toBelow⟩
end Go.Proofs.Ytolkimdfnlfpbaa
