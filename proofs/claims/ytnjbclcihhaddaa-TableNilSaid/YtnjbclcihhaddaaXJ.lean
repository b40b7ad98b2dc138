/- A table in memory, said as a list. Conditions: the pairs' texts are not long. -/
import Derived.Test.YtnjbclcihhaddaaXI
set_option linter.unusedVariables false
set_option linter.unusedSimpArgs false
namespace Go.Proofs.Ytnjbclcihhaddaa
open Go.RowKit Go.Op

def Sh (p : Pr) : Prop := p.lb.size ≤ 100 ∧ p.hb.size ≤ 100
/-- At m lies a table of room M that holds L; its row lies at g. -/
def Tab (w : World) (m g M : Nat) (L : PL) : Prop :=
  ∃ sl, Blk w m [(.slice (some ⟨g, 0, none⟩) (2 * M + 1) (2 * M + 1) : Value), .int .i64 (M : Int), .int .i64 ((L.length : Nat) : Int), .int .i64 ((spentL sl : Nat) : Int)] 95 ∧
    Blk w g (rowC sl) 135 ∧ m ≠ g ∧ TOk (hashF (2 * M + 1)) sl (2 * M + 1) L ∧ L.length ≤ M ∧ spentL sl ≤ 3 * M / 2 ∧ (1 ≤ M ∧ M ≤ 4096) ∧ ∀ y ∈ L, Sh y.1
theorem Tab.keep {S : Nat → Prop} {w w' : World} {m g M : Nat} {L : PL} (h : Tab w m g M L) (t : Touch S w w') (hm : ¬ S m) (hg : ¬ S g) : Tab w' m g M L := by
  obtain ⟨sl, h1, h2, h3⟩ := h
  exact ⟨sl, h1.keep t hm, h2.keep t hg, h3⟩
theorem Tab.lt {w : World} {m g M : Nat} {L : PL} (h : Tab w m g M L) : m < w.heap.size ∧ g < w.heap.size ∧ m ≠ g := by
  obtain ⟨sl, h1, h2, h3, _⟩ := h
  exact ⟨h1.lt, h2.lt, h3⟩
theorem Tab.sorted {w : World} {m g M : Nat} {L : PL} (h : Tab w m g M L) : SortedL L ∧ L.length ≤ M ∧ 1 ≤ M ∧ M ≤ 4096 := by
  obtain ⟨sl, h1, h2, h3, h4, h5, h6, h7, _⟩ := h
  exact ⟨h4.sorted, h5, h7.1, h7.2⟩
theorem tab_new (M : Nat) (h1 : 1 ≤ M) (h2 : M ≤ 4096) (w : World) : Calls Try.prog 33 #[.int .i64 (M : Int)] w fun e w' => ∃ m g, e = .returned (.tuple #[.pointer (some ⟨m, 0, none⟩), .int .i64 0]) ∧ w.heap.size ≤ m ∧ w.heap.size ≤ g ∧ Below w.heap.size w w' ∧ Tab w' m g M [] := by
  refine (new_any M (2 * M + 1) h1 h2 rfl w).mono ?_
  rintro e w' ⟨m, g, he, hm, hg, hb, hM, hG, hmg⟩
  exact ⟨m, g, he, hm, hg, hb, zeros (2 * M + 1), by rw [zeros_spent]; exact hM, hG, hmg, TOk.new (by omega) (fun p => hashF_lt (by omega) p), Nat.zero_le _, by rw [zeros_spent]; omega, ⟨h1, h2⟩, fun y hy => by cases hy⟩
theorem tab_get {w : World} {m g M : Nat} {L : PL} (h : Tab w m g M L) (p : Pr) (hp : Sh p) : Calls Try.prog 39 #[.pointer (some ⟨m, 0, none⟩), .agg #[.string p.lb, .int .i64 p.lp, .string p.hb, .int .i64 p.hp]] w fun e w' => e = .returned (.tuple #[.int .i64 ((lookL L p).getD 0), .bool (lookL L p).isSome]) ∧ Below w.heap.size w w' := by
  obtain ⟨sl, hM, hG, hmg, ht, hLM, hsp, ⟨hm1, hm2⟩, hsh⟩ := h
  rcases ht.find p with ⟨i, x0, hi, hs, hm, hf⟩ | ⟨hno, hf, hroom⟩
  · rw [(look_some ht.sorted).2 hm]
    exact get_yes m g sl _ M _ _ w hM hG hmg p (by omega) (by omega) ht.len hm1 hm2 hp.1 hp.2 i _ hi (Prod.ext hf rfl) x0 hs
  · rw [look_none.2 hno]
    exact get_no m g sl _ M _ _ w hM hG hmg p (by omega) (by omega) ht.len hm1 hm2 hp.1 hp.2 _ (Prod.ext hf rfl)
theorem tab_len {w : World} {m g M : Nat} {L : PL} (h : Tab w m g M L) : Calls Try.prog 37 #[.pointer (some ⟨m, 0, none⟩)] w fun e w' => e = .returned (.int .i64 ((L.length : Nat) : Int)) ∧ Below w.heap.size w w' := by
  obtain ⟨sl, hM, hG, hmg, ht, hLM, hsp, ⟨hm1, hm2⟩, hsh⟩ := h
  exact len_is m g sl _ M _ _ w hM hG hmg hm1
theorem tab_room {w : World} {m g M : Nat} {L : PL} (h : Tab w m g M L) : Calls Try.prog 40 #[.pointer (some ⟨m, 0, none⟩)] w fun e w' => e = .returned (.int .i64 ((M - L.length : Nat) : Int)) ∧ Below w.heap.size w w' := by
  obtain ⟨sl, hM, hG, hmg, ht, hLM, hsp, ⟨hm1, hm2⟩, hsh⟩ := h
  exact room_is m g sl _ M _ _ w hM hG hmg hm1 hm2 hLM
theorem tab_drop {w : World} {m g M : Nat} {L : PL} (h : Tab w m g M L) (p : Pr) (hp : Sh p) : Calls Try.prog 38 #[.pointer (some ⟨m, 0, none⟩), .agg #[.string p.lb, .int .i64 p.lp, .string p.hb, .int .i64 p.hp]] w fun e w' => e = .returned (.bool (lookL L p).isSome) ∧ Tab w' m g M (dropL L p) ∧ Touch (fun b => b = m ∨ b = g) w w' := by
  obtain ⟨sl, hM, hG, hmg, ht, hLM, hsp, ⟨hm1, hm2⟩, hsh⟩ := h
  rcases ht.find p with ⟨i, x0, hi, hs, hm, hf⟩ | ⟨hno, hf, hroom⟩
  · rw [(look_some ht.sorted).2 hm]
    have hdl := dropL_len ht.sorted hm
    refine (drop_yes m g sl _ M _ _ w hM hG hmg p (by omega) (by omega) ht.len hm1 hm2 hp.1 hp.2 i _ hi (Prod.ext hf rfl) x0 hs (by omega) hLM).mono ?_
    rintro e w' ⟨he, h1, h2, h3⟩
    have hspd : spentL (sl.set i Sl.dead) = spentL sl := by rw [spent_set hs (by decide), if_neg (by show ¬ (1 : Int) = 0; decide)]
    refine ⟨he, ⟨sl.set i Sl.dead, ?_, h2, hmg, ht.drop hs, by omega, by rw [hspd]; exact hsp, ⟨hm1, hm2⟩, fun y hy => hsh y (dropL_mem.1 hy).1⟩, h3⟩
    rw [hspd, show (dropL L p).length = L.length - 1 by omega]
    exact h1
  · rw [look_none.2 hno, dropL_none hno]
    refine (drop_no m g sl _ M _ _ w hM hG hmg p (by omega) (by omega) ht.len hm1 hm2 hp.1 hp.2 _ (Prod.ext hf rfl)).mono ?_
    rintro e w' ⟨he, hb⟩
    have t := Touch.none hb
    exact ⟨he, ⟨sl, hM.keep t (fun h => h), hG.keep t (fun h => h), hmg, ht, hLM, hsp, ⟨hm1, hm2⟩, hsh⟩, t.mono (fun _ _ h => h.elim)⟩
def putE (M : Nat) (L : PL) (p : Pr) : Int := if (lookL L p).isSome then 0 else if L.length = M then 11 else 0
def putR (M : Nat) (L : PL) (p : Pr) (x : Int) : PL := if (lookL L p).isSome then putL L p x else if L.length = M then L else putL L p x
theorem putL_sh {L : PL} {p : Pr} {x : Int} (hp : Sh p) (h : ∀ y ∈ L, Sh y.1) : ∀ y ∈ putL L p x, Sh y.1 := by
  intro y hy
  rcases List.mem_cons.1 ((putL_perm L p x).mem_iff.1 hy) with rfl | h2
  · exact hp
  · exact h y (dropL_mem.1 h2).1
theorem tab_put {w : World} {m g M : Nat} {L : PL} (h : Tab w m g M L) (p : Pr) (hp : Sh p) (x : Int) : Calls Try.prog 36 #[.pointer (some ⟨m, 0, none⟩), .agg #[.string p.lb, .int .i64 p.lp, .string p.hb, .int .i64 p.hp], .int .i64 x] w fun e w' => e = .returned (.int .i64 (putE M L p)) ∧ ∃ g', Tab w' m g' M (putR M L p x) ∧ (g' = g ∨ w.heap.size ≤ g') ∧ Touch (fun b => b = m ∨ b = g) w w' := by
  obtain ⟨sl, hM, hG, hmg, ht, hLM, hsp, ⟨hm1, hm2⟩, hsh⟩ := h
  rcases ht.find p with ⟨i, x0, hi, hs, hm, hf⟩ | ⟨hno, hf, hroom⟩
  · have hlk := (look_some ht.sorted).2 hm
    have hpl : (putL L p x).length = L.length := by rw [putL_len]; have := dropL_len ht.sorted hm; omega
    unfold putE putR
    simp only [hlk, Option.isSome_some, if_true]
    refine (put_at m g sl _ M _ _ w hM hG hmg p (by omega) (by omega) ht.len hm1 hm2 hp.1 hp.2 i _ hi (Prod.ext hf rfl) x0 hs x).mono ?_
    rintro e w' ⟨he, h1, h2, h3⟩
    have hspd : spentL (sl.set i ⟨1, p, x⟩) = spentL sl := by rw [spent_set hs (by decide : (1 : Int) ≠ 0), if_neg (by show ¬ (1 : Int) = 0; decide)]
    refine ⟨he, g, ⟨sl.set i ⟨1, p, x⟩, ?_, h2, hmg, ht.put_old hs x, by omega, by rw [hspd]; exact hsp, ⟨hm1, hm2⟩, putL_sh hp hsh⟩, .inl rfl, h3⟩
    rw [hspd, hpl]; exact h1
  · have hlk := look_none.2 hno
    unfold putE putR
    simp only [hlk, Option.isSome_none, Bool.false_eq_true, if_false]
    by_cases hfull : L.length = M
    · rw [if_pos hfull, if_pos hfull]
      refine (put_full m g sl _ M _ _ w hM hG hmg p (by omega) (by omega) ht.len hm1 hm2 hp.1 hp.2 _ (Prod.ext hf rfl) x hfull).mono ?_
      rintro e w' ⟨he, hb⟩
      have t := Touch.none hb
      exact ⟨he, g, ⟨sl, hM.keep t (fun h => h), hG.keep t (fun h => h), hmg, ht, hLM, hsp, ⟨hm1, hm2⟩, hsh⟩, .inl rfl, t.mono (fun _ _ h => h.elim)⟩
    · rw [if_neg hfull, if_neg hfull]
      obtain ⟨i, s, hi, hs, h02, hf2, hpath⟩ := hroom (by omega)
      have ht2 := ht.put_new hno hs h02 hpath x
      have hpl : (putL L p x).length = L.length + 1 := by rw [putL_len, dropL_none hno]
      have hsh2 : ∀ y ∈ putL L p x, Sh y.1 := putL_sh hp hsh
      have hshs : ∀ (k : Nat) s, (sl.set i ⟨1, p, x⟩)[k]? = some s → s.st = 1 → s.p.lb.size ≤ 100 ∧ s.p.hb.size ≤ 100 := fun k s hk h1 => hsh2 (s.p, s.x) (ht2.mem.2 ⟨k, by rw [hk, ← h1]⟩)
      rcases h02 with h0 | h0
      · have hspd : spentL (sl.set i ⟨1, p, x⟩) = spentL sl + 1 := by rw [spent_set hs (by decide : (1 : Int) ≠ 0), if_pos h0]
        by_cases hrb : spentL sl + 1 ≤ 3 * M / 2
        · refine (put_new0 m g sl _ M _ _ w hM hG hmg p (by omega) (by omega) ht.len hm1 hm2 hp.1 hp.2 i hi (Prod.ext hf hf2) s hs x (by omega) (by omega) h0 hrb).mono ?_
          rintro e w' ⟨he, h1, h2, h3⟩
          refine ⟨he, g, ⟨sl.set i ⟨1, p, x⟩, ?_, h2, hmg, ht2, by omega, by omega, ⟨hm1, hm2⟩, hsh2⟩, .inl rfl, h3⟩
          rw [hspd, hpl]; exact h1
        · refine (put_new0r m g sl _ M _ _ w hM hG hmg p (by omega) (by omega) ht.len hm1 hm2 hp.1 hp.2 i hi (Prod.ext hf hf2) s hs x (by omega) (by omega) _ ht2 hshs h0 (by omega)).mono ?_
          rintro e w' ⟨he, g2, acc, h1, h2, hg2, h3, hR⟩
          obtain ⟨r1, r2⟩ := relaid_end ht2 hR
          have := hM.lt
          refine ⟨he, g2, ⟨acc, ?_, h2, by omega, r1, by omega, by omega, ⟨hm1, hm2⟩, hsh2⟩, .inr hg2, h3⟩
          rw [r2, hpl]; exact h1
      · have hspd : spentL (sl.set i ⟨1, p, x⟩) = spentL sl := by rw [spent_set hs (by decide : (1 : Int) ≠ 0), if_neg (by rw [h0]; decide)]
        refine (put_new2 m g sl _ M _ _ w hM hG hmg p (by omega) (by omega) ht.len hm1 hm2 hp.1 hp.2 i hi (Prod.ext hf hf2) s hs x (by omega) (by omega) h0 hsp).mono ?_
        rintro e w' ⟨he, h1, h2, h3⟩
        refine ⟨he, g, ⟨sl.set i ⟨1, p, x⟩, ?_, h2, hmg, ht2, by omega, by omega, ⟨hm1, hm2⟩, hsh2⟩, .inl rfl, h3⟩
        rw [hspd, hpl]; exact h1
theorem tab_pairs {w : World} {m g M : Nat} {L : PL} (h : Tab w m g M L) : Calls Try.prog 42 #[.pointer (some ⟨m, 0, none⟩)] w fun e w' => ∃ v, e = .returned v ∧ w'.ownsRow w.heap.size 61 4 v L.length (prC (L.map (·.1))) ∧ Below w.heap.size w w' := by
  obtain ⟨sl, hM, hG, hmg, ht, hLM, hsp, ⟨hm1, hm2⟩, hsh⟩ := h
  refine (pairs_any m g sl _ M _ _ w hM hG hmg L ht (by omega) (by omega) ht.len hm1).mono ?_
  rintro e w' ⟨v, l, he, hl, ho, hb⟩
  have e1 := listed_end ht hl
  subst e1
  rw [List.length_map] at ho
  exact ⟨v, he, ho, hb⟩
end Go.Proofs.Ytnjbclcihhaddaa
