/- Tables as lists: the plain law of open addressing. No condition beyond what each states. -/
import Derived.Laws.Strings
set_option linter.unusedVariables false
set_option linter.unusedSimpArgs false
namespace Go.Proofs.Ytnjbclcihhaddaa
open Go.Op

structure Pr where
  lb : ByteArray
  lp : Int
  hb : ByteArray
  hp : Int
deriving DecidableEq
structure Sl where
  st : Int
  p : Pr
  x : Int
deriving DecidableEq
def Sl.zero : Sl := ⟨0, ⟨⟨#[]⟩, 0, ⟨#[]⟩, 0⟩, 0⟩
def Sl.dead : Sl := ⟨2, ⟨⟨#[]⟩, 0, ⟨#[]⟩, 0⟩, 0⟩

/-! bytes in order -/
theorem bl_irr : ∀ l : List UInt8, bytesLess l l = false
  | [] => rfl
  | a :: l => by simp [bytesLess, bl_irr l]
theorem bl_trans : ∀ a b c : List UInt8, bytesLess a b = true → bytesLess b c = true → bytesLess a c = true
  | [], [], _, h, _ => by simp [bytesLess] at h
  | [], _ :: _, [], _, h => by simp [bytesLess] at h
  | [], _ :: _, _ :: _, _, _ => by simp [bytesLess]
  | _ :: _, [], _, h, _ => by simp [bytesLess] at h
  | _ :: _, _ :: _, [], _, h => by simp [bytesLess] at h
  | a :: x, b :: y, c :: z, h1, h2 => by
    simp only [bytesLess, Bool.or_eq_true, Bool.and_eq_true, decide_eq_true_eq, beq_iff_eq] at *
    rcases h1 with h1 | ⟨rfl, h1⟩
    · rcases h2 with h2 | ⟨rfl, h2⟩
      · left; rw [UInt8.lt_iff_toNat_lt] at *; omega
      · left; exact h1
    · rcases h2 with h2 | ⟨rfl, h2⟩
      · left; exact h2
      · right; exact ⟨rfl, bl_trans x y z h1 h2⟩
theorem bl_tri : ∀ a b : List UInt8, bytesLess a b = false → bytesLess b a = false → a = b
  | [], [], _, _ => rfl
  | [], _ :: _, h, _ => by simp [bytesLess] at h
  | _ :: _, [], _, h => by simp [bytesLess] at h
  | a :: x, b :: y, h1, h2 => by
    simp only [bytesLess, Bool.or_eq_false_iff, Bool.and_eq_false_iff, decide_eq_false_iff_not, beq_eq_false_iff_ne] at *
    obtain ⟨h1a, h1b⟩ := h1
    obtain ⟨h2a, h2b⟩ := h2
    have e : a = b := by
      rw [UInt8.lt_iff_toNat_lt] at *
      exact UInt8.toNat_inj.1 (by omega)
    subst e
    simp at h1b h2b
    rw [bl_tri x y h1b h2b]

/-- An end ahead of another one. -/
def lessE (ab : ByteArray) (ap : Int) (bb : ByteArray) (bp : Int) : Bool :=
  if ab.size ≠ bb.size then decide (ab.size < bb.size)
  else if ab ≠ bb then bytesLess ab.toList bb.toList
  else decide (ap < bp)
def lessP (a b : Pr) : Bool :=
  if a.lb = b.lb ∧ a.lp = b.lp then lessE a.hb a.hp b.hb b.hp else lessE a.lb a.lp b.lb b.lp

theorem tl_inj {a b : ByteArray} (h : a.toList = b.toList) : a = b := by
  rw [ByteArray.toList_eq, ByteArray.toList_eq] at h
  cases a; cases b
  simp at h
  simpa using h
theorem lessE_irr (b : ByteArray) (p : Int) : lessE b p b p = false := by simp [lessE]
theorem lessE_trans {a b c : ByteArray} {p q r : Int} (h1 : lessE a p b q = true) (h2 : lessE b q c r = true) : lessE a p c r = true := by
  unfold lessE at *
  by_cases e1 : a.size = b.size
  · by_cases e2 : b.size = c.size
    · have e3 : a.size = c.size := e1.trans e2
      simp only [e1, e2, e3, ne_eq, not_true_eq_false, if_false] at *
      by_cases f1 : a = b
      · subst f1
        simp only [not_true_eq_false, if_false, decide_eq_true_eq] at h1
        by_cases f2 : a = c
        · subst f2; simp at h2 ⊢; omega
        · simp only [f2, not_false_eq_true, if_true] at h2 ⊢; exact h2
      · simp only [f1, not_false_eq_true, if_true] at h1
        by_cases f2 : b = c
        · subst f2; simp only [f1, not_false_eq_true, if_true]; exact h1
        · simp only [f2, not_false_eq_true, if_true] at h2
          have h3 := bl_trans _ _ _ h1 h2
          have f3 : a ≠ c := by
            rintro rfl
            rw [bl_irr] at h3; cases h3
          simp only [f3, ne_eq, not_false_eq_true, if_true]; exact h3
    · have e3 : ¬ a.size = c.size := by omega
      simp only [e1, e2, ne_eq, not_true_eq_false, not_false_eq_true, if_true, if_false] at *
      exact h2
  · simp only [e1, ne_eq, not_false_eq_true, if_true, decide_eq_true_eq] at h1
    by_cases e2 : b.size = c.size
    · have e3 : ¬ a.size = c.size := by omega
      simp only [e3, ne_eq, not_false_eq_true, if_true, decide_eq_true_eq]; omega
    · simp only [e2, ne_eq, not_false_eq_true, if_true, decide_eq_true_eq] at h2
      have e3 : ¬ a.size = c.size := by omega
      simp only [e3, ne_eq, not_false_eq_true, if_true, decide_eq_true_eq]; omega
theorem lessE_tri {a b : ByteArray} {p q : Int} (h1 : lessE a p b q = false) (h2 : lessE b q a p = false) : a = b ∧ p = q := by
  unfold lessE at *
  by_cases e1 : a.size = b.size
  · simp only [e1, ne_eq, not_true_eq_false, if_false] at *
    by_cases f1 : a = b
    · subst f1; simp at h1 h2; exact ⟨rfl, by omega⟩
    · have f2 : ¬ b = a := fun h => f1 h.symm
      simp only [f1, f2, not_false_eq_true, if_true] at h1 h2
      exact absurd (tl_inj (bl_tri _ _ h1 h2)) f1
  · have e2 : ¬ b.size = a.size := fun h => e1 h.symm
    simp only [e1, e2, ne_eq, not_false_eq_true, if_true, decide_eq_false_iff_not] at h1 h2
    omega
theorem lessP_irr (a : Pr) : lessP a a = false := by simp [lessP, lessE_irr]
theorem lessP_trans {a b c : Pr} (h1 : lessP a b = true) (h2 : lessP b c = true) : lessP a c = true := by
  unfold lessP at *
  by_cases e1 : a.lb = b.lb ∧ a.lp = b.lp
  · rw [if_pos e1] at h1
    by_cases e2 : b.lb = c.lb ∧ b.lp = c.lp
    · rw [if_pos e2] at h2
      rw [if_pos ⟨e1.1.trans e2.1, e1.2.trans e2.2⟩]
      exact lessE_trans h1 h2
    · rw [if_neg e2] at h2
      rw [if_neg (by rw [e1.1, e1.2]; exact e2), e1.1, e1.2]
      exact h2
  · rw [if_neg e1] at h1
    by_cases e2 : b.lb = c.lb ∧ b.lp = c.lp
    · rw [if_neg (by rw [← e2.1, ← e2.2]; exact e1), ← e2.1, ← e2.2]
      exact h1
    · rw [if_neg e2] at h2
      have h3 := lessE_trans h1 h2
      rw [if_neg ?_]
      · exact h3
      · rintro ⟨f1, f2⟩
        rw [f1, f2, lessE_irr] at h3; cases h3
theorem lessP_tri {a b : Pr} (h1 : lessP a b = false) (h2 : lessP b a = false) : a = b := by
  unfold lessP at *
  by_cases e1 : a.lb = b.lb ∧ a.lp = b.lp
  · have e2 : b.lb = a.lb ∧ b.lp = a.lp := ⟨e1.1.symm, e1.2.symm⟩
    rw [if_pos e1] at h1
    rw [if_pos e2] at h2
    obtain ⟨f1, f2⟩ := lessE_tri h1 h2
    cases a; cases b; simp_all
  · have e2 : ¬ (b.lb = a.lb ∧ b.lp = a.lp) := fun h => e1 ⟨h.1.symm, h.2.symm⟩
    rw [if_neg e1] at h1
    rw [if_neg e2] at h2
    exact absurd (lessE_tri h1 h2) e1
theorem lessP_asym {a b : Pr} (h1 : lessP a b = true) : lessP b a = false := by
  cases h : lessP b a with
  | false => rfl
  | true => have := lessP_trans h1 h; rw [lessP_irr] at this; cases this

/-! sorted lists of pairs with a thing each -/
abbrev PL := List (Pr × Int)
def SortedL (L : PL) : Prop := L.Pairwise (fun a b => lessP a.1 b.1 = true)
def lookL (L : PL) (p : Pr) : Option Int := (L.find? (fun y => y.1 == p)).map (·.2)
def dropL (L : PL) (p : Pr) : PL := L.filter (fun y => !(y.1 == p))
def insL (L : PL) (p : Pr) (x : Int) : PL := (L.takeWhile (fun y => lessP y.1 p)) ++ (p, x) :: (L.dropWhile (fun y => lessP y.1 p))
def hasL (L : PL) (p : Pr) : Bool := L.any (fun y => y.1 == p)
def putL (L : PL) (p : Pr) (x : Int) : PL := insL (dropL L p) p x

theorem SortedL.filter {L : PL} (h : SortedL L) (f : Pr × Int → Bool) : SortedL (L.filter f) := List.Pairwise.filter f h
theorem SortedL.drop {L : PL} (h : SortedL L) (p : Pr) : SortedL (dropL L p) := h.filter _
theorem insL_perm (L : PL) (p : Pr) (x : Int) : (insL L p x).Perm ((p, x) :: L) := by
  unfold insL
  refine (List.perm_middle).trans ?_
  rw [List.takeWhile_append_dropWhile]
theorem insL_sorted {L : PL} (h : SortedL L) (p : Pr) (x : Int) (hn : ∀ y ∈ L, y.1 ≠ p) : SortedL (insL L p x) := by
  induction L with
  | nil => simp [insL, SortedL]
  | cons y r ih =>
    have h' : (∀ z ∈ r, lessP y.1 z.1 = true) ∧ SortedL r := List.pairwise_cons.1 h
    cases hy : lessP y.1 p with
    | true =>
      have e : insL (y :: r) p x = y :: insL r p x := by simp [insL, hy]
      rw [e]
      refine List.pairwise_cons.2 ⟨fun z hz => ?_, ih h'.2 (fun z hz => hn z (by simp [hz]))⟩
      have := (insL_perm r p x).mem_iff.1 hz
      rcases List.mem_cons.1 this with rfl | hz'
      · exact hy
      · exact h'.1 z hz'
    | false =>
      have e : insL (y :: r) p x = (p, x) :: y :: r := by simp [insL, hy]
      rw [e]
      have hpy : lessP p y.1 = true := by
        cases hh : lessP p y.1 with
        | true => rfl
        | false => exact absurd (lessP_tri hy hh) (hn y (by simp))
      refine List.pairwise_cons.2 ⟨fun z hz => ?_, h⟩
      rcases List.mem_cons.1 hz with rfl | hz'
      · exact hpy
      · exact lessP_trans hpy (h'.1 z hz')
theorem sorted_nodup {L : PL} (h : SortedL L) : L.Pairwise (fun a b => a.1 ≠ b.1) :=
  List.Pairwise.imp (fun {a b} hab e => by rw [e, lessP_irr] at hab; cases hab) h
theorem dropL_mem {L : PL} {p : Pr} {y : Pr × Int} : y ∈ dropL L p ↔ y ∈ L ∧ y.1 ≠ p := by simp [dropL]
theorem putL_sorted {L : PL} (h : SortedL L) (p : Pr) (x : Int) : SortedL (putL L p x) := insL_sorted (h.drop p) p x (fun y hy => (dropL_mem.1 hy).2)
theorem putL_perm (L : PL) (p : Pr) (x : Int) : (putL L p x).Perm ((p, x) :: dropL L p) := insL_perm _ _ _
theorem sorted_perm_eq {A B : PL} (ha : SortedL A) (hb : SortedL B) (h : A.Perm B) : A = B :=
  List.Perm.eq_of_pairwise (fun a b _ _ h1 h2 => by have := lessP_asym h1; rw [h2] at this; cases this) ha hb h
theorem look_some {L : PL} (h : SortedL L) {p : Pr} {x : Int} : lookL L p = some x ↔ (p, x) ∈ L := by
  unfold lookL
  induction L with
  | nil => simp
  | cons y r ih =>
    have h' : (∀ z ∈ r, lessP y.1 z.1 = true) ∧ SortedL r := List.pairwise_cons.1 h
    by_cases e : y.1 = p
    · subst e
      simp only [List.find?_cons, beq_self_eq_true, Option.map_some, Option.some.injEq, List.mem_cons]
      constructor
      · rintro rfl; exact .inl rfl
      · rintro (h1 | h1)
        · rw [← h1]
        · have := h'.1 _ h1; rw [lessP_irr] at this; cases this
    · simp only [List.find?_cons, beq_eq_false_iff_ne.2 e, List.mem_cons]
      rw [ih h'.2]
      constructor
      · exact .inr
      · rintro (h1 | h1)
        · exact absurd (congrArg Prod.fst h1).symm e
        · exact h1
theorem look_none {L : PL} {p : Pr} : lookL L p = none ↔ ∀ y ∈ L, y.1 ≠ p := by
  unfold lookL
  simp [List.find?_eq_none]
theorem dropL_none {L : PL} {p : Pr} (h : ∀ y ∈ L, y.1 ≠ p) : dropL L p = L := by
  unfold dropL; rw [List.filter_eq_self]; intro y hy; simpa using h y hy
theorem dropL_len {L : PL} (h : SortedL L) {p : Pr} {x : Int} (hm : (p, x) ∈ L) : (dropL L p).length + 1 = L.length := by
  induction L with
  | nil => simp at hm
  | cons y r ih =>
    have h' : (∀ z ∈ r, lessP y.1 z.1 = true) ∧ SortedL r := List.pairwise_cons.1 h
    by_cases e : y.1 = p
    · have : dropL r p = r := dropL_none (fun z hz ez => by have := h'.1 z hz; rw [e, ez, lessP_irr] at this; cases this)
      unfold dropL at *
      simp [List.filter_cons, e, this]
    · have hm' : (p, x) ∈ r := by
        rcases List.mem_cons.1 hm with h1 | h1
        · exact absurd (congrArg Prod.fst h1).symm e
        · exact h1
      have := ih h'.2 hm'
      unfold dropL at *
      simp [List.filter_cons, e]; omega
theorem putL_len {L : PL} (p : Pr) (x : Int) : (putL L p x).length = (dropL L p).length + 1 := by
  rw [(putL_perm L p x).length_eq]; rfl

/-! slots -/
def usedL (sl : List Sl) : PL := sl.filterMap (fun s => if s.st = 1 then some (s.p, s.x) else none)
def spentL (sl : List Sl) : Nat := (sl.filter (fun s => !(s.st == 0))).length
def posn (N h j : Nat) : Nat := (h + j) % N
def PathTo (sl : List Sl) (N h i : Nat) : Prop := ∃ j, j < N ∧ posn N h j = i ∧ ∀ m, m < j → ∀ s, sl[posn N h m]? = some s → s.st ≠ 0

theorem split_at {sl : List Sl} {i : Nat} {s : Sl} (h : sl[i]? = some s) : sl = sl.take i ++ s :: sl.drop (i + 1) := by
  obtain ⟨hi, rfl⟩ := List.getElem?_eq_some_iff.1 h
  rw [← List.drop_eq_getElem_cons hi, List.take_append_drop]
theorem set_at {sl : List Sl} {i : Nat} {s : Sl} (h : sl[i]? = some s) (t : Sl) : sl.set i t = sl.take i ++ t :: sl.drop (i + 1) := by
  obtain ⟨hi, rfl⟩ := List.getElem?_eq_some_iff.1 h
  rw [List.set_eq_take_append_cons_drop, if_pos hi]
theorem used_put {sl : List Sl} {i : Nat} {s : Sl} (h : sl[i]? = some s) (hs : s.st ≠ 1) (p : Pr) (x : Int) : (usedL (sl.set i ⟨1, p, x⟩)).Perm ((p, x) :: usedL sl) := by
  conv => rhs; rw [split_at h]
  rw [set_at h]
  unfold usedL
  simp only [List.filterMap_append, List.filterMap_cons, if_true, if_neg hs]
  exact List.perm_middle
theorem used_drop {sl : List Sl} {i : Nat} {s t : Sl} (h : sl[i]? = some s) (hs : s.st = 1) (ht : t.st ≠ 1) : (usedL sl).Perm ((s.p, s.x) :: usedL (sl.set i t)) := by
  conv => lhs; rw [split_at h]
  rw [set_at h]
  unfold usedL
  simp only [List.filterMap_append, List.filterMap_cons, if_neg ht, if_pos hs]
  exact List.perm_middle
theorem used_x {sl : List Sl} {i : Nat} {s : Sl} (h : sl[i]? = some s) (hs : s.st = 1) (x : Int) : ∃ M : PL, (usedL sl).Perm ((s.p, s.x) :: M) ∧ (usedL (sl.set i ⟨1, s.p, x⟩)).Perm ((s.p, x) :: M) := by
  refine ⟨usedL (sl.take i) ++ usedL (sl.drop (i + 1)), ?_, ?_⟩
  · conv => lhs; rw [split_at h]
    unfold usedL
    simp only [List.filterMap_append, List.filterMap_cons, if_pos hs]
    exact List.perm_middle
  · rw [set_at h]
    unfold usedL
    simp only [List.filterMap_append, List.filterMap_cons, if_true]
    exact List.perm_middle
theorem spent_set {sl : List Sl} {i : Nat} {s t : Sl} (h : sl[i]? = some s) (ht : t.st ≠ 0) : spentL (sl.set i t) = if s.st = 0 then spentL sl + 1 else spentL sl := by
  have e : spentL sl = spentL (sl.take i) + (if s.st = 0 then 0 else 1) + spentL (sl.drop (i + 1)) := by
    conv => lhs; rw [split_at h]
    unfold spentL
    rw [List.filter_append, List.filter_cons, List.length_append]
    split <;> simp_all <;> omega
  rw [e, set_at h]
  unfold spentL
  rw [List.filter_append, List.filter_cons, List.length_append]
  simp only [beq_eq_false_iff_ne.2 ht, Bool.not_false, if_true, List.length_cons]
  split <;> omega
theorem used_mem {sl : List Sl} {p : Pr} {x : Int} : (p, x) ∈ usedL sl ↔ ∃ i : Nat, sl[i]? = some ⟨1, p, x⟩ := by
  unfold usedL
  rw [List.mem_filterMap]
  constructor
  · rintro ⟨s, hs, he⟩
    split at he
    · rename_i h1
      obtain ⟨i, hi, rfl⟩ := List.getElem_of_mem hs
      refine ⟨i, ?_⟩
      rw [List.getElem?_eq_getElem hi]
      simp at he
      obtain ⟨h2, h3⟩ := he
      rw [← h2, ← h3, ← h1]
    · cases he
  · rintro ⟨i, hi⟩
    exact ⟨_, List.mem_of_getElem? hi, by simp⟩
theorem used_le_spent (sl : List Sl) : (usedL sl).length ≤ spentL sl := by
  unfold usedL spentL
  induction sl with
  | nil => simp
  | cons s r ih =>
    by_cases h : s.st = 1
    · simp [List.filterMap_cons, List.filter_cons, h]; omega
    · by_cases h0 : s.st = 0
      · simp [List.filterMap_cons, List.filter_cons, h, h0]; omega
      · simp [List.filterMap_cons, List.filter_cons, h, h0]; omega

/-! the search -/
def findF (sl : List Sl) (p : Pr) (N : Nat) : Nat → Nat → Int → Int × Int
  | 0, _, room => (-1, room)
  | k + 1, i, room =>
    match sl[i]? with
    | none => (-1, room)
    | some s =>
      if s.st = 0 then (-1, if room = -1 then (i : Int) else room)
      else if s.st = 2 then findF sl p N k ((i + 1) % N) (if room = -1 then (i : Int) else room)
      else if s.p = p then ((i : Int), room)
      else findF sl p N k ((i + 1) % N) room

theorem posn_succ (N h j : Nat) : (posn N h j + 1) % N = posn N h (j + 1) := by
  unfold posn; rw [Nat.mod_add_mod]; rfl
theorem posn_lt {N : Nat} (hN : 0 < N) (h j : Nat) : posn N h j < N := Nat.mod_lt _ hN
theorem posn_inj {N h i j : Nat} (hi : i < N) (hj : j < N) (e : posn N h i = posn N h j) : i = j := by
  unfold posn at e
  have a := Nat.div_add_mod (h + i) N
  have b := Nat.div_add_mod (h + j) N
  rw [e] at a
  rcases Nat.lt_trichotomy ((h + i) / N) ((h + j) / N) with hlt | heq | hgt
  · exfalso
    have := Nat.mul_le_mul_left N hlt
    rw [Nat.mul_succ] at this
    omega
  · rw [heq] at a; omega
  · exfalso
    have := Nat.mul_le_mul_left N hgt
    rw [Nat.mul_succ] at this
    omega
theorem posn_onto {N h i : Nat} (hh : h < N) (hi : i < N) : ∃ j, j < N ∧ posn N h j = i := by
  by_cases c : h ≤ i
  · exact ⟨i - h, by omega, by unfold posn; rw [show h + (i - h) = i by omega, Nat.mod_eq_of_lt hi]⟩
  · exact ⟨i + N - h, by omega, by unfold posn; rw [show h + (i + N - h) = i + N by omega, Nat.add_mod_right, Nat.mod_eq_of_lt hi]⟩

/-- What the search says, from the j-th place on. -/
theorem find_tells {sl : List Sl} {p : Pr} {N h : Nat} (hN : 0 < N) (hlen : sl.length = N) : ∀ (k j : Nat) (room : Int), j + k = N →
    (∃ m s, j ≤ m ∧ m < N ∧ (findF sl p N k (posn N h j) room).1 = (posn N h m : Nat) ∧ sl[posn N h m]? = some s ∧ s.st ≠ 0 ∧ s.st ≠ 2 ∧ s.p = p) ∨
    ((findF sl p N k (posn N h j) room).1 = -1 ∧ (∀ m s, j ≤ m → m < N → sl[posn N h m]? = some s → s.st ≠ 0 → s.st ≠ 2 → s.p = p → ∃ i t, j ≤ i ∧ i < m ∧ sl[posn N h i]? = some t ∧ t.st = 0) ∧
      ((room ≠ -1 ∧ (findF sl p N k (posn N h j) room).2 = room) ∨
       (room = -1 ∧ ∃ m s, j ≤ m ∧ m < N ∧ (findF sl p N k (posn N h j) room).2 = (posn N h m : Nat) ∧ sl[posn N h m]? = some s ∧ (s.st = 0 ∨ s.st = 2) ∧ ∀ i t, j ≤ i → i < m → sl[posn N h i]? = some t → t.st ≠ 0) ∨
       (room = -1 ∧ (findF sl p N k (posn N h j) room).2 = -1 ∧ ∀ m s, j ≤ m → m < N → sl[posn N h m]? = some s → s.st ≠ 0 ∧ s.st ≠ 2)))
  | 0, j, room, hj => by
    right
    refine ⟨rfl, fun m s h1 h2 => by omega, ?_⟩
    by_cases hr : room = -1
    · exact .inr (.inr ⟨hr, hr ▸ rfl, fun m s h1 h2 => by omega⟩)
    · exact .inl ⟨hr, rfl⟩
  | k + 1, j, room, hj => by
    obtain ⟨s, hs⟩ : ∃ s, sl[posn N h j]? = some s := ⟨_, List.getElem?_eq_getElem (by rw [hlen]; exact posn_lt hN h j)⟩
    by_cases h0 : s.st = 0
    · have e : findF sl p N (k + 1) (posn N h j) room = (-1, if room = -1 then ((posn N h j : Nat) : Int) else room) := by simp [findF, hs, h0]
      rw [e]
      right
      refine ⟨rfl, fun m t h1 h2 ht h3 h4 h5 => ?_, ?_⟩
      · by_cases e : m = j
        · subst e; rw [hs] at ht; cases ht; exact absurd h0 h3
        · exact ⟨j, s, Nat.le_refl _, by omega, hs, h0⟩
      · by_cases hr : room = -1
        · exact .inr (.inl ⟨hr, j, s, Nat.le_refl _, by omega, by simp [hr], hs, .inl h0, fun i t h1 h2 => by omega⟩)
        · exact .inl ⟨hr, by simp [hr]⟩
    · by_cases h2 : s.st = 2
      · have e : findF sl p N (k + 1) (posn N h j) room = findF sl p N k (posn N h (j + 1)) (if room = -1 then ((posn N h j : Nat) : Int) else room) := by
          simp only [findF, hs, h0, if_false, h2, if_true, posn_succ]; simp
        rw [e]
        rcases find_tells hN hlen k (j + 1) (if room = -1 then ((posn N h j : Nat) : Int) else room) (by omega) with ⟨m, t, a1, a2, a3⟩ | ⟨a1, a2, a3⟩
        · exact .inl ⟨m, t, by omega, a2, a3⟩
        · right
          refine ⟨a1, fun m t b1 b2 b3 b4 b5 b6 => ?_, ?_⟩
          · by_cases e : m = j
            · subst e; rw [hs] at b3; cases b3; exact absurd h2 b5
            · obtain ⟨i, u, c1, c2, c3⟩ := a2 m t (by omega) b2 b3 b4 b5 b6
              exact ⟨i, u, by omega, c2, c3⟩
          · by_cases hr : room = -1
            · rw [if_pos hr] at a3 ⊢
              rcases a3 with ⟨c1, c2⟩ | ⟨c1, _⟩ | ⟨c1, _⟩
              · exact .inr (.inl ⟨hr, j, s, Nat.le_refl _, by omega, c2, hs, .inr h2, fun i t h1 h2 => by omega⟩)
              · omega
              · omega
            · rw [if_neg hr] at a3 ⊢
              rcases a3 with ⟨c1, c2⟩ | ⟨c1, _⟩ | ⟨c1, _⟩
              · exact .inl ⟨hr, c2⟩
              · exact absurd c1 hr
              · exact absurd c1 hr
      · by_cases hp : s.p = p
        · have e : findF sl p N (k + 1) (posn N h j) room = (((posn N h j : Nat) : Int), room) := by simp [findF, hs, h0, h2, hp]
          rw [e]
          exact .inl ⟨j, s, Nat.le_refl _, by omega, rfl, hs, h0, h2, hp⟩
        · have e : findF sl p N (k + 1) (posn N h j) room = findF sl p N k (posn N h (j + 1)) room := by
            simp only [findF, hs, h0, if_false, h2, hp, posn_succ]
          rw [e]
          rcases find_tells hN hlen k (j + 1) room (by omega) with ⟨m, t, a1, a2, a3⟩ | ⟨a1, a2, a3⟩
          · exact .inl ⟨m, t, by omega, a2, a3⟩
          · right
            refine ⟨a1, fun m t b1 b2 b3 b4 b5 b6 => ?_, ?_⟩
            · by_cases e : m = j
              · subst e; rw [hs] at b3; cases b3; exact absurd b6 hp
              · obtain ⟨i, u, c1, c2, c3⟩ := a2 m t (by omega) b2 b3 b4 b5 b6
                exact ⟨i, u, by omega, c2, c3⟩
            · rcases a3 with c | ⟨c1, m, t, c2, c3, c4, c5, c6, c7⟩ | ⟨c1, c2, c3⟩
              · exact .inl c
              · refine .inr (.inl ⟨c1, m, t, by omega, c3, c4, c5, c6, fun i u d1 d2 d3 => ?_⟩)
                by_cases e : i = j
                · subst e; rw [hs] at d3; cases d3; exact h0
                · exact c7 i u (by omega) d2 d3
              · refine .inr (.inr ⟨c1, c2, fun m t d1 d2 d3 => ?_⟩)
                by_cases e : m = j
                · subst e; rw [hs] at d3; cases d3; exact ⟨h0, h2⟩
                · exact c3 m t (by omega) d2 d3

/-! tables -/
structure TOk (hs : Pr → Nat) (sl : List Sl) (N : Nat) (L : PL) : Prop where
  len : sl.length = N
  pos : 0 < N
  hash : ∀ p, hs p < N
  st : ∀ (i : Nat) s, sl[i]? = some s → s.st = 0 ∨ s.st = 1 ∨ s.st = 2
  path : ∀ (i : Nat) s, sl[i]? = some s → s.st = 1 → PathTo sl N (hs s.p) i
  perm : (usedL sl).Perm L
  sorted : SortedL L
def findP (hs : Pr → Nat) (sl : List Sl) (N : Nat) (p : Pr) : Int × Int := findF sl p N N (hs p) (-1)

variable {hs : Pr → Nat} {sl : List Sl} {N : Nat} {L : PL}

theorem free_of_spent : ∀ {sl : List Sl}, spentL sl < sl.length → ∃ (i : Nat) (s : Sl), sl[i]? = some s ∧ s.st = 0
  | [], h => by simp at h
  | s :: r, h => by
    by_cases h0 : s.st = 0
    · exact ⟨0, s, rfl, h0⟩
    · have : spentL r < r.length := by
        unfold spentL at h ⊢
        simp only [List.filter_cons, beq_eq_false_iff_ne.2 h0, Bool.not_false, if_true, List.length_cons] at h
        omega
      obtain ⟨i, t, h1, h2⟩ := free_of_spent this
      exact ⟨i + 1, t, by simpa using h1, h2⟩
theorem TOk.mem (h : TOk hs sl N L) {p : Pr} {x : Int} : (p, x) ∈ L ↔ ∃ i : Nat, sl[i]? = some ⟨1, p, x⟩ := by
  rw [← h.perm.mem_iff, used_mem]
theorem TOk.find (h : TOk hs sl N L) (p : Pr) :
    (∃ i x, i < N ∧ sl[i]? = some ⟨1, p, x⟩ ∧ (p, x) ∈ L ∧ (findP hs sl N p).1 = (i : Nat)) ∨
    ((∀ y ∈ L, y.1 ≠ p) ∧ (findP hs sl N p).1 = -1 ∧ (spentL sl < N → ∃ i s, i < N ∧ sl[i]? = some s ∧ (s.st = 0 ∨ s.st = 2) ∧ (findP hs sl N p).2 = (i : Nat) ∧ PathTo sl N (hs p) i)) := by
  have h0 : posn N (hs p) 0 = hs p := by unfold posn; rw [Nat.add_zero, Nat.mod_eq_of_lt (h.hash p)]
  have ht := find_tells (p := p) (h := hs p) h.pos h.len N 0 (-1) (by omega)
  rw [h0] at ht
  rcases ht with ⟨m, s, _, hm, h1, h2, h3, h4, h5⟩ | ⟨h1, h2, h3⟩
  · left
    have h6 : s.st = 1 := by rcases h.st _ _ h2 with a | a | a <;> simp_all
    have h7 : sl[posn N (hs p) m]? = some ⟨1, p, s.x⟩ := by rw [h2, ← h6, ← h5]
    exact ⟨_, s.x, posn_lt h.pos _ _, h7, h.mem.2 ⟨_, h7⟩, h1⟩
  · right
    refine ⟨fun y hy e => ?_, h1, fun hsp => ?_⟩
    · obtain ⟨p', x⟩ := y
      simp at e
      subst e
      obtain ⟨i, hi⟩ := h.mem.1 hy
      obtain ⟨j, hj, hij, hp⟩ := h.path _ _ hi rfl
      rw [← hij] at hi
      obtain ⟨i', t, c1, c2, c3, c4⟩ := h2 j _ (Nat.zero_le _) hj hi (by simp) (by simp) rfl
      exact hp i' c2 t c3 c4
    · rcases h3 with ⟨c, _⟩ | ⟨_, m, s, c1, c2, c3, c4, c5, c6⟩ | ⟨_, c2, c3⟩
      · exact absurd rfl c
      · exact ⟨_, s, posn_lt h.pos _ _, c4, c5, c3, m, c2, rfl, fun i hi t ht => c6 i t (Nat.zero_le _) hi ht⟩
      · exfalso
        obtain ⟨i, s, hi, h0⟩ := free_of_spent (by rw [h.len]; exact hsp)
        have hlt : i < N := by rw [← h.len]; exact (List.getElem?_eq_some_iff.1 hi).1
        obtain ⟨j, hj, rfl⟩ := posn_onto (h.hash p) hlt
        exact (c3 j s (Nat.zero_le _) hj hi).1 h0
theorem path_set {i : Nat} {t : Sl} (ht : t.st ≠ 0) {h q : Nat} (hp : PathTo sl N h q) : PathTo (sl.set i t) N h q := by
  obtain ⟨j, hj, e, hh⟩ := hp
  refine ⟨j, hj, e, fun m hm s hs => ?_⟩
  rw [List.getElem?_set] at hs
  split at hs
  · split at hs
    · cases hs; exact ht
    · cases hs
  · exact hh m hm s hs
theorem TOk.put_new (h : TOk hs sl N L) {p : Pr} (hn : ∀ y ∈ L, y.1 ≠ p) {i : Nat} {s : Sl} (hi : sl[i]? = some s) (hs0 : s.st = 0 ∨ s.st = 2) (hp : PathTo sl N (hs p) i) (x : Int) :
    TOk hs (sl.set i ⟨1, p, x⟩) N (putL L p x) := by
  have hlt := (List.getElem?_eq_some_iff.1 hi).1
  refine ⟨by rw [List.length_set]; exact h.len, h.pos, h.hash, fun j t hj => ?_, fun j t hj h1 => ?_, ?_, putL_sorted h.sorted p x⟩
  · rw [List.getElem?_set] at hj
    split at hj
    · cases hj; exact .inr (.inl rfl)
    · exact h.st j t hj
  · rw [List.getElem?_set] at hj
    split at hj
    · rename_i e
      cases hj
      subst e
      exact path_set (by simp) hp
    · exact path_set (by simp) (h.path j t hj h1)
  · refine (used_put hi (by rcases hs0 with a | a <;> omega) p x).trans ((h.perm.cons _).trans ?_)
    refine List.Perm.trans ?_ (putL_perm L p x).symm
    rw [dropL_none hn]
theorem TOk.put_old (h : TOk hs sl N L) {p : Pr} {i : Nat} {x0 : Int} (hi : sl[i]? = some ⟨1, p, x0⟩) (x : Int) : TOk hs (sl.set i ⟨1, p, x⟩) N (putL L p x) := by
  have hlt := (List.getElem?_eq_some_iff.1 hi).1
  refine ⟨by rw [List.length_set]; exact h.len, h.pos, h.hash, fun j t hj => ?_, fun j t hj h1 => ?_, ?_, putL_sorted h.sorted p x⟩
  · rw [List.getElem?_set] at hj
    split at hj
    · cases hj; exact .inr (.inl rfl)
    · exact h.st j t hj
  · rw [List.getElem?_set] at hj
    split at hj
    · rename_i e
      cases hj
      subst e
      exact path_set (by simp) (h.path _ ⟨1, p, x0⟩ hi rfl)
    · exact path_set (by simp) (h.path j t hj h1)
  · obtain ⟨M, h1, h2⟩ := used_x hi rfl x
    refine h2.trans (List.Perm.trans ?_ (putL_perm L p x).symm)
    refine List.Perm.cons _ ?_
    have h3 : L.Perm ((p, x0) :: M) := h.perm.symm.trans h1
    have h4 : (dropL L p).Perm (dropL ((p, x0) :: M) p) := h3.filter _
    have h5 : ((p, x0) :: M).Pairwise (fun a b => a.1 ≠ b.1) := (h3.pairwise_iff (fun {a b} hab => fun e => hab e.symm)).1 (sorted_nodup h.sorted)
    have h6 : dropL ((p, x0) :: M) p = M := by
      have e : dropL ((p, x0) :: M) p = dropL M p := by simp [dropL]
      rw [e]
      exact dropL_none (fun y hy e => (List.pairwise_cons.1 h5).1 y hy e.symm)
    rw [h6] at h4
    exact h4.symm
theorem TOk.drop (h : TOk hs sl N L) {p : Pr} {i : Nat} {x0 : Int} (hi : sl[i]? = some ⟨1, p, x0⟩) : TOk hs (sl.set i Sl.dead) N (dropL L p) := by
  have hlt := (List.getElem?_eq_some_iff.1 hi).1
  refine ⟨by rw [List.length_set]; exact h.len, h.pos, h.hash, fun j t hj => ?_, fun j t hj h1 => ?_, ?_, h.sorted.drop p⟩
  · rw [List.getElem?_set] at hj
    split at hj
    · cases hj; exact .inr (.inr rfl)
    · exact h.st j t hj
  · rw [List.getElem?_set] at hj
    split at hj
    · cases hj; simp [Sl.dead] at h1
    · exact path_set (by simp [Sl.dead]) (h.path j t hj h1)
  · have h1 := used_drop (t := Sl.dead) hi rfl (by simp [Sl.dead])
    have h3 : L.Perm ((p, x0) :: usedL (sl.set i Sl.dead)) := h.perm.symm.trans h1
    have h4 : (dropL L p).Perm (dropL ((p, x0) :: usedL (sl.set i Sl.dead)) p) := h3.filter _
    have h5 : ((p, x0) :: usedL (sl.set i Sl.dead)).Pairwise (fun a b => a.1 ≠ b.1) := (h3.pairwise_iff (fun {a b} hab => fun e => hab e.symm)).1 (sorted_nodup h.sorted)
    have h6 : dropL ((p, x0) :: usedL (sl.set i Sl.dead)) p = usedL (sl.set i Sl.dead) := by
      have e : dropL ((p, x0) :: usedL (sl.set i Sl.dead)) p = dropL (usedL (sl.set i Sl.dead)) p := by simp [dropL]
      rw [e]
      exact dropL_none (fun y hy e => (List.pairwise_cons.1 h5).1 y hy e.symm)
    rw [h6] at h4
    exact h4.symm
theorem TOk.count (h : TOk hs sl N L) : L.length ≤ spentL sl := by rw [← h.perm.length_eq]; exact used_le_spent sl

/-! an empty table; laying anew -/
def zeros (N : Nat) : List Sl := List.replicate N Sl.zero
theorem zeros_used (N : Nat) : usedL (zeros N) = [] := by
  unfold usedL zeros
  rw [List.filterMap_eq_nil_iff]
  intro s hs
  rw [List.eq_of_mem_replicate hs]; rfl
theorem zeros_spent (N : Nat) : spentL (zeros N) = 0 := by
  unfold spentL zeros
  rw [List.length_eq_zero_iff, List.filter_eq_nil_iff]
  intro s hs
  rw [List.eq_of_mem_replicate hs]; simp [Sl.zero]
theorem TOk.new (hN : 0 < N) (hh : ∀ p, hs p < N) : TOk hs (zeros N) N [] := by
  have hz : ∀ (i : Nat) s, (zeros N)[i]? = some s → s = Sl.zero := fun i s h => List.eq_of_mem_replicate (List.mem_of_getElem? h)
  refine ⟨by simp [zeros], hN, hh, fun i s h => ?_, fun i s h h1 => ?_, by rw [zeros_used], List.Pairwise.nil⟩
  · rw [hz i s h]; exact .inl rfl
  · rw [hz i s h] at h1; simp [Sl.zero] at h1
theorem used_take_succ {k : Nat} {s : Sl} (h : sl[k]? = some s) : usedL (sl.take (k + 1)) = usedL (sl.take k) ++ (if s.st = 1 then [(s.p, s.x)] else []) := by
  unfold usedL
  rw [List.take_add_one, h, List.filterMap_append]
  congr 1
  by_cases h1 : s.st = 1
  · simp [h1]
  · simp [h1]
theorem used_take_sub (k : Nat) : usedL sl = usedL (sl.take k) ++ usedL (sl.drop k) := by
  unfold usedL; rw [← List.filterMap_append, List.take_append_drop]
/-- k of the old slots are laid anew. -/
def Relaid (hs : Pr → Nat) (sl : List Sl) (N k : Nat) (acc : List Sl) : Prop :=
  ∃ M, TOk hs acc N M ∧ M.Perm (usedL (sl.take k)) ∧ spentL acc = (usedL (sl.take k)).length
theorem relaid_start (h : TOk hs sl N L) : Relaid hs sl N 0 (zeros N) :=
  ⟨[], TOk.new h.pos h.hash, by simp [usedL], by simp [zeros_spent, usedL]⟩
theorem relaid_skip {acc : List Sl} {k : Nat} {s : Sl} (hr : Relaid hs sl N k acc) (hk : sl[k]? = some s) (h1 : s.st ≠ 1) : Relaid hs sl N (k + 1) acc := by
  unfold Relaid
  rw [used_take_succ hk, if_neg h1, List.append_nil]
  exact hr
theorem relaid_step (h : TOk hs sl N L) {acc : List Sl} {k : Nat} {s : Sl} (hr : Relaid hs sl N k acc) (hk : sl[k]? = some s) (h1 : s.st = 1) :
    ∃ i, i < N ∧ (findP hs acc N s.p).2 = (i : Nat) ∧ Relaid hs sl N (k + 1) (acc.set i s) := by
  obtain ⟨M, hM, hp, hsp⟩ := hr
  have hkN : k < N := by rw [← h.len]; exact (List.getElem?_eq_some_iff.1 hk).1
  have hlen : (usedL (sl.take k)).length ≤ k := by
    have : (usedL (sl.take k)).length ≤ (sl.take k).length := List.length_filterMap_le _ _
    rw [List.length_take] at this
    omega
  have hnd : (usedL sl).Pairwise (fun a b => a.1 ≠ b.1) := (h.perm.pairwise_iff (fun {a b} hab => fun e => hab e.symm)).2 (sorted_nodup h.sorted)
  have hnot : ∀ y ∈ M, y.1 ≠ s.p := by
    intro y hy
    have hy' := hp.mem_iff.1 hy
    rw [used_take_sub (sl := sl) (k + 1), used_take_succ hk, if_pos h1, List.append_assoc] at hnd
    exact (List.pairwise_append.1 hnd).2.2 y hy' (s.p, s.x) (by simp)
  rcases hM.find s.p with ⟨i, x, _, _, hm, _⟩ | ⟨_, _, hroom⟩
  · exact absurd rfl (hnot _ hm)
  · obtain ⟨i, t, hi, hti, ht, he, hpath⟩ := hroom (by omega)
    have e : s = ⟨1, s.p, s.x⟩ := by rw [← h1]
    have hput := hM.put_new hnot hti ht hpath s.x
    rw [← e] at hput
    refine ⟨i, hi, he, putL M s.p s.x, hput, ?_, ?_⟩
    · rw [used_take_succ hk, if_pos h1]
      refine (putL_perm M s.p s.x).trans ?_
      rw [dropL_none hnot]
      refine (hp.cons _).trans ?_
      exact (List.perm_append_comm (l₁ := [(s.p, s.x)]) (l₂ := usedL (sl.take k)))
    · rw [used_take_succ hk, if_pos h1, List.length_append, ← hsp]
      have hspent := hput.count
      have hc : (acc.set i s).length = N := hput.len
      rw [spent_set hti (by rw [h1]; decide)]
      rcases ht with ht | ht
      · rw [if_pos ht]; rfl
      · exfalso
        have e1 := used_le_spent acc
        have e2 := hM.perm.length_eq
        have e3 := hp.length_eq
        -- a dead slot would count as spent beside the used ones
        have e4 : spentL acc = spentL (acc.take i) + 1 + spentL (acc.drop (i + 1)) := by
          conv => lhs; rw [split_at hti]
          unfold spentL
          rw [List.filter_append, List.filter_cons, List.length_append]
          simp [ht]; omega
        have e5 : usedL acc = usedL (acc.take i) ++ usedL (acc.drop (i + 1)) := by
          conv => lhs; rw [split_at hti]
          unfold usedL
          rw [List.filterMap_append, List.filterMap_cons]
          simp [ht]
        have e6 := used_le_spent (acc.take i)
        have e7 := used_le_spent (acc.drop (i + 1))
        have e8 : (usedL acc).length = (usedL (acc.take i)).length + (usedL (acc.drop (i + 1))).length := by rw [e5, List.length_append]
        omega
theorem relaid_end (h : TOk hs sl N L) {acc : List Sl} (hr : Relaid hs sl N N acc) : TOk hs acc N L ∧ spentL acc = L.length := by
  obtain ⟨M, hM, hp, hsp⟩ := hr
  rw [show sl.take N = sl from by rw [← h.len, List.take_length]] at hp hsp
  have e : M = L := sorted_perm_eq hM.sorted h.sorted (hp.trans h.perm)
  subst e
  exact ⟨hM, by rw [hsp, h.perm.length_eq]⟩

/-! the pairs, in order -/
def SortedP (l : List Pr) : Prop := l.Pairwise (fun a b => lessP a b = true)
theorem insert_sorted {l : List Pr} (h : SortedP l) {p : Pr} (hp : p ∉ l) {i : Nat} (hi : i ≤ l.length) (h1 : i = 0 ∨ ∃ q, l[i - 1]? = some q ∧ lessP p q = false) (h2 : ∀ (j : Nat) q, i ≤ j → l[j]? = some q → lessP p q = true) :
    SortedP (l.take i ++ p :: l.drop i) := by
  unfold SortedP at *
  have hs := h
  rw [← List.take_append_drop i l] at hs
  obtain ⟨ha, hb, hab⟩ := List.pairwise_append.1 hs
  rw [List.pairwise_append]
  refine ⟨ha, List.pairwise_cons.2 ⟨fun q hq => ?_, hb⟩, fun a haa b hbb => ?_⟩
  · obtain ⟨j, hj, rfl⟩ := List.getElem_of_mem hq
    rw [List.getElem_drop]
    exact h2 (i + j) _ (by omega) (List.getElem?_eq_getElem _)
  · rcases List.mem_cons.1 hbb with rfl | hbb
    · rcases h1 with rfl | ⟨q, hq, hlq⟩
      · simp at haa
      · have hql : lessP q b = true := by
          cases hh : lessP q b with
          | true => rfl
          | false => exact absurd (lessP_tri hh hlq) (fun e => hp (e ▸ List.mem_of_getElem? hq))
        obtain ⟨j, hj, rfl⟩ := List.getElem_of_mem haa
        rw [List.length_take] at hj
        rw [List.getElem_take]
        by_cases e : j = i - 1
        · subst e
          rw [List.getElem?_eq_getElem (by omega)] at hq
          cases hq; exact hql
        · obtain ⟨hq1, hq2⟩ := List.getElem?_eq_some_iff.1 hq
          have := List.pairwise_iff_getElem.1 h j (i - 1) (by omega) hq1 (by omega)
          rw [hq2] at this
          exact lessP_trans this hql
    · exact hab a haa b hbb
theorem insert_perm' (l : List Pr) (p : Pr) (i : Nat) : (l.take i ++ p :: l.drop i).Perm (p :: l) := by
  refine List.perm_middle.trans ?_
  rw [List.take_append_drop]
/-- k slots' pairs are there, in order. -/
def Listed (sl : List Sl) (k : Nat) (l : List Pr) : Prop := SortedP l ∧ l.Perm ((usedL (sl.take k)).map (·.1))
theorem listed_start : Listed sl 0 [] := ⟨List.Pairwise.nil, by simp [usedL]⟩
theorem listed_skip {k : Nat} {s : Sl} {l : List Pr} (h : Listed sl k l) (hk : sl[k]? = some s) (h1 : s.st ≠ 1) : Listed sl (k + 1) l := by
  unfold Listed
  rw [used_take_succ hk, if_neg h1, List.append_nil]
  exact h
theorem listed_not (h : TOk hs sl N L) {k : Nat} {s : Sl} {l : List Pr} (hl : Listed sl k l) (hk : sl[k]? = some s) (h1 : s.st = 1) : s.p ∉ l := by
  intro hm
  have := hl.2.mem_iff.1 hm
  rw [List.mem_map] at this
  obtain ⟨y, hy, hyp⟩ := this
  have hnd : (usedL sl).Pairwise (fun a b => a.1 ≠ b.1) := (h.perm.pairwise_iff (fun {a b} hab => fun e => hab e.symm)).2 (sorted_nodup h.sorted)
  rw [used_take_sub (sl := sl) (k + 1), used_take_succ hk, if_pos h1, List.append_assoc] at hnd
  exact (List.pairwise_append.1 hnd).2.2 y hy (s.p, s.x) (by simp) hyp
theorem listed_step (h : TOk hs sl N L) {k : Nat} {s : Sl} {l : List Pr} (hl : Listed sl k l) (hk : sl[k]? = some s) (h1 : s.st = 1) {i : Nat} (hi : i ≤ l.length)
    (h2 : i = 0 ∨ ∃ q, l[i - 1]? = some q ∧ lessP s.p q = false) (h3 : ∀ (j : Nat) q, i ≤ j → l[j]? = some q → lessP s.p q = true) : Listed sl (k + 1) (l.take i ++ s.p :: l.drop i) := by
  refine ⟨insert_sorted hl.1 (listed_not h hl hk h1) hi h2 h3, ?_⟩
  rw [used_take_succ hk, if_pos h1, List.map_append]
  refine (insert_perm' l s.p i).trans ((hl.2.cons _).trans ?_)
  exact List.perm_append_comm (l₁ := [s.p])
theorem listed_end (h : TOk hs sl N L) {l : List Pr} (hl : Listed sl N l) : l = L.map (·.1) := by
  have hp := hl.2
  rw [show sl.take N = sl from by rw [← h.len, List.take_length]] at hp
  have hs : SortedP (L.map (·.1)) := by
    unfold SortedP; rw [List.pairwise_map]; exact h.sorted
  exact List.Perm.eq_of_pairwise (fun a b _ _ h1 h2 => by have := lessP_asym h1; rw [h2] at this; cases this) hl.1 hs (hp.trans (h.perm.map _))
end Go.Proofs.Ytnjbclcihhaddaa
