/- How rules and asks that came in read; the plain law of rules. Conditions: as each states. -/
import Derived.Test.YtolkimdfnlfpbaaXC
import Derived.Test.YtolkimdfnlfpbaaXD
import Derived.Test.YtolkimdfnlfpbaaFlat
set_option linter.unusedVariables false
set_option linter.unusedSimpArgs false
namespace Go.Proofs.Ytolkimdfnlfpbaa
open Go.RowKit

theorem leaves43 : leavesAt Try.prog 9 43 = [(0, 4), (1, 3), (2, 9), (3, 3), (4, 9), (5, 3), (6, 3), (7, 3), (8, 3), (9, 3), (10, 3), (11, 3), (12, 3)] := by decide +kernel
theorem leaves34 : leavesAt Try.prog 9 34 = [(0, 9), (1, 9), (2, 3), (3, 3), (4, 25), (5, 25), (6, 3), (7, 3), (8, 3), (9, 3), (10, 3), (11, 4), (12, 26), (13, 4), (14, 25), (15, 25), (16, 9), (17, 3), (18, 3)] := by decide +kernel
theorem leaf_int {v : Value} (h : leafOk Try.prog 3 v) : ∃ n, v = .int .i64 n := by
  unfold leafOk at h; rw [Try.underlying3] at h; obtain ⟨n, h, _⟩ := h; exact ⟨n, h⟩
theorem leaf_bool {v : Value} (h : leafOk Try.prog 4 v) : ∃ b, v = .bool b := by
  unfold leafOk at h; rw [Try.underlying4] at h; exact h
theorem leaf_str {v : Value} (h : leafOk Try.prog 9 v) : ∃ s, v = .string s := by
  unfold leafOk at h; rw [Try.underlying9] at h; obtain ⟨n, h, _⟩ := h; exact ⟨n, h⟩
theorem leaf_u32 {v : Value} (h : leafOk Try.prog 25 v) : ∃ n, v = .int .u32 n := by
  unfold leafOk at h; rw [Try.underlying25] at h; obtain ⟨n, h, _⟩ := h; exact ⟨n, h⟩
theorem leaf_slice {v : Value} (h : leafOk Try.prog 26 v) : ∃ a n c, v = .slice a n c := by
  unfold leafOk at h; rw [Try.underlying26] at h; obtain ⟨a, n, c, h, _⟩ := h; exact ⟨a, n, c, h⟩
theorem rl_of {f : Nat → Option Value} (h : ∀ o ty, (o, ty) ∈ leavesAt Try.prog 9 43 → ∃ v, f o = some v ∧ leafOk Try.prog ty v) : ∃ r : Rl, ∀ j v, r.cs[j]? = some v → f j = some v := by
  rw [leaves43] at h
  obtain ⟨v0, h0, l0⟩ := h 0 4 (by simp)
  obtain ⟨v1, h1, l1⟩ := h 1 3 (by simp)
  obtain ⟨v2, h2, l2⟩ := h 2 9 (by simp)
  obtain ⟨v3, h3, l3⟩ := h 3 3 (by simp)
  obtain ⟨v4, h4, l4⟩ := h 4 9 (by simp)
  obtain ⟨v5, h5, l5⟩ := h 5 3 (by simp)
  obtain ⟨v6, h6, l6⟩ := h 6 3 (by simp)
  obtain ⟨v7, h7, l7⟩ := h 7 3 (by simp)
  obtain ⟨v8, h8, l8⟩ := h 8 3 (by simp)
  obtain ⟨v9, h9, l9⟩ := h 9 3 (by simp)
  obtain ⟨v10, h10, l10⟩ := h 10 3 (by simp)
  obtain ⟨v11, h11, l11⟩ := h 11 3 (by simp)
  obtain ⟨v12, h12, l12⟩ := h 12 3 (by simp)
  obtain ⟨x0, rfl⟩ := leaf_bool l0
  obtain ⟨x1, rfl⟩ := leaf_int l1
  obtain ⟨x2, rfl⟩ := leaf_str l2
  obtain ⟨x3, rfl⟩ := leaf_int l3
  obtain ⟨x4, rfl⟩ := leaf_str l4
  obtain ⟨x5, rfl⟩ := leaf_int l5
  obtain ⟨x6, rfl⟩ := leaf_int l6
  obtain ⟨x7, rfl⟩ := leaf_int l7
  obtain ⟨x8, rfl⟩ := leaf_int l8
  obtain ⟨x9, rfl⟩ := leaf_int l9
  obtain ⟨x10, rfl⟩ := leaf_int l10
  obtain ⟨x11, rfl⟩ := leaf_int l11
  obtain ⟨x12, rfl⟩ := leaf_int l12
  refine ⟨⟨x0, x1, x2, x3, x4, x5, x6, x7, x8, x9, x10, x11, x12⟩, fun j v hj => ?_⟩
  have hl : j < 13 := (List.getElem?_eq_some_iff.1 hj).1
  match j, hl with
  | 0, _ => rw [h0]; exact hj
  | 1, _ => rw [h1]; exact hj
  | 2, _ => rw [h2]; exact hj
  | 3, _ => rw [h3]; exact hj
  | 4, _ => rw [h4]; exact hj
  | 5, _ => rw [h5]; exact hj
  | 6, _ => rw [h6]; exact hj
  | 7, _ => rw [h7]; exact hj
  | 8, _ => rw [h8]; exact hj
  | 9, _ => rw [h9]; exact hj
  | 10, _ => rw [h10]; exact hj
  | 11, _ => rw [h11]; exact hj
  | 12, _ => rw [h12]; exact hj
  | n + 13, h => exact absurd h (by omega)
theorem arr_of {cs : Array Value} {l : List Value} (hn : cs.size = l.length) (h : ∀ (j : Nat) (v : Value), l[j]? = some v → cs.toList[j]? = some v) : cs = l.toArray := by
  apply Array.ext'
  apply List.ext_getElem?
  intro j
  by_cases hj : j < l.length
  · rw [h j l[j] (List.getElem?_eq_getElem hj)]; simp [hj]
  · rw [List.getElem?_eq_none (by simp; omega), List.getElem?_eq_none (by simp; omega)]
theorem size43 : Try.prog.cellsOf 43 = 13 := by decide +kernel
theorem size34 : Try.prog.cellsOf 34 = 19 := by decide +kernel
theorem rule_agg {cs : Array Value} (hn : cs.size = Try.prog.cellsOf 43) (h : ∀ o ty, (o, ty) ∈ leavesAt Try.prog 9 43 → ∃ v, cs.toList[o]? = some v ∧ leafOk Try.prog ty v) : ∃ r : Rl, cs = r.cs.toArray := by
  obtain ⟨r, hr⟩ := rl_of (f := fun o => cs.toList[o]?) h
  exact ⟨r, arr_of (by rw [hn, size43]; rfl) hr⟩
def Ak.cs (a : Ak) : List Value := [.string a.src, .string a.dst, .int .i64 a.from_, .int .i64 a.to_, .int .u32 a.seq, .int .u32 a.ack, .int .i64 a.flags, .int .i64 a.win, .int .i64 a.urg, .int .i64 a.mss, .int .i64 a.scale, .bool a.sack, .slice a.ba a.bn a.bc, .bool a.timed, .int .u32 a.time, .int .u32 a.echo, .string a.data, .int .i64 a.side, .int .i64 a.class_]
theorem ask_agg {cs : Array Value} (hn : cs.size = Try.prog.cellsOf 34) (h : ∀ o ty, (o, ty) ∈ leavesAt Try.prog 9 34 → ∃ v, cs.toList[o]? = some v ∧ leafOk Try.prog ty v) : ∃ a : Ak, cs = a.cs.toArray := by
  rw [leaves34] at h
  obtain ⟨v0, h0, l0⟩ := h 0 9 (by simp)
  obtain ⟨v1, h1, l1⟩ := h 1 9 (by simp)
  obtain ⟨v2, h2, l2⟩ := h 2 3 (by simp)
  obtain ⟨v3, h3, l3⟩ := h 3 3 (by simp)
  obtain ⟨v4, h4, l4⟩ := h 4 25 (by simp)
  obtain ⟨v5, h5, l5⟩ := h 5 25 (by simp)
  obtain ⟨v6, h6, l6⟩ := h 6 3 (by simp)
  obtain ⟨v7, h7, l7⟩ := h 7 3 (by simp)
  obtain ⟨v8, h8, l8⟩ := h 8 3 (by simp)
  obtain ⟨v9, h9, l9⟩ := h 9 3 (by simp)
  obtain ⟨v10, h10, l10⟩ := h 10 3 (by simp)
  obtain ⟨v11, h11, l11⟩ := h 11 4 (by simp)
  obtain ⟨v12, h12, l12⟩ := h 12 26 (by simp)
  obtain ⟨v13, h13, l13⟩ := h 13 4 (by simp)
  obtain ⟨v14, h14, l14⟩ := h 14 25 (by simp)
  obtain ⟨v15, h15, l15⟩ := h 15 25 (by simp)
  obtain ⟨v16, h16, l16⟩ := h 16 9 (by simp)
  obtain ⟨v17, h17, l17⟩ := h 17 3 (by simp)
  obtain ⟨v18, h18, l18⟩ := h 18 3 (by simp)
  obtain ⟨x0, rfl⟩ := leaf_str l0
  obtain ⟨x1, rfl⟩ := leaf_str l1
  obtain ⟨x2, rfl⟩ := leaf_int l2
  obtain ⟨x3, rfl⟩ := leaf_int l3
  obtain ⟨x4, rfl⟩ := leaf_u32 l4
  obtain ⟨x5, rfl⟩ := leaf_u32 l5
  obtain ⟨x6, rfl⟩ := leaf_int l6
  obtain ⟨x7, rfl⟩ := leaf_int l7
  obtain ⟨x8, rfl⟩ := leaf_int l8
  obtain ⟨x9, rfl⟩ := leaf_int l9
  obtain ⟨x10, rfl⟩ := leaf_int l10
  obtain ⟨x11, rfl⟩ := leaf_bool l11
  obtain ⟨xa, xn, xc, rfl⟩ := leaf_slice l12
  obtain ⟨x13, rfl⟩ := leaf_bool l13
  obtain ⟨x14, rfl⟩ := leaf_u32 l14
  obtain ⟨x15, rfl⟩ := leaf_u32 l15
  obtain ⟨x16, rfl⟩ := leaf_str l16
  obtain ⟨x17, rfl⟩ := leaf_int l17
  obtain ⟨x18, rfl⟩ := leaf_int l18
  refine ⟨⟨x0, x1, x2, x3, x4, x5, x6, x7, x8, x9, x10, x11, xa, xn, xc, x13, x14, x15, x16, x17, x18⟩, arr_of (by rw [hn, size34]; rfl) (fun j v hj => ?_)⟩
  have hl : j < 19 := (List.getElem?_eq_some_iff.1 hj).1
  match j, hl with
  | 0, _ => rw [h0]; exact hj
  | 1, _ => rw [h1]; exact hj
  | 2, _ => rw [h2]; exact hj
  | 3, _ => rw [h3]; exact hj
  | 4, _ => rw [h4]; exact hj
  | 5, _ => rw [h5]; exact hj
  | 6, _ => rw [h6]; exact hj
  | 7, _ => rw [h7]; exact hj
  | 8, _ => rw [h8]; exact hj
  | 9, _ => rw [h9]; exact hj
  | 10, _ => rw [h10]; exact hj
  | 11, _ => rw [h11]; exact hj
  | 12, _ => rw [h12]; exact hj
  | 13, _ => rw [h13]; exact hj
  | 14, _ => rw [h14]; exact hj
  | 15, _ => rw [h15]; exact hj
  | 16, _ => rw [h16]; exact hj
  | 17, _ => rw [h17]; exact hj
  | 18, _ => rw [h18]; exact hj
  | n + 19, h => exact absurd h (by omega)
theorem rules_of {w : World} {a : Option Addr} {len : Nat} (h : RowIn Try.prog w 43 13 a len) : ∃ R : Nat → Rl, RulesAt w a len R := by
  have hh : ∀ i, ∃ r : Rl, i < len → ∃ b off, a = some ⟨b, off, none⟩ ∧ b < w.heap.size ∧ ∀ j v, r.cs[j]? = some v → w.cell? ⟨b, off + i * 13 + j, none⟩ = some v := by
    intro i
    by_cases hi : i < len
    · obtain ⟨b, off, ha, hb, hl⟩ := h i hi
      obtain ⟨r, hr⟩ := rl_of (f := fun o => w.cell? ⟨b, off + (i * 13 + o), none⟩) hl
      exact ⟨r, fun _ => ⟨b, off, ha, hb, fun j v hj => by rw [Nat.add_assoc]; exact hr j v hj⟩⟩
    · exact ⟨wideR true, fun h => absurd h hi⟩
  exact ⟨fun i => Classical.choose (hh i), fun i hi => Classical.choose_spec (hh i) hi⟩
theorem rule1 {w : World} {g : Nat} {r : Rl} (h : Blk w g r.cs 43) : RulesAt w (some ⟨g, 0, none⟩) 1 (fun _ => r) :=
  blk_rules h (fun i hi j v hj => by obtain rfl : i = 0 := (by omega); simpa using hj)
theorem light_parts {R : Nat → Rl} {len : Nat} {a : Ak} (h : lightB R len a = true) : len ≤ 60 ∧ LightAll R len ∧ SmallR R len ∧ a.src.size ≤ 100 ∧ a.dst.size ≤ 100 := by
  unfold lightB lightP at h
  simp only [Bool.and_eq_true, decide_eq_true_eq, List.all_eq_true, List.mem_range] at h
  obtain ⟨⟨h1, h2⟩, h3⟩ := h
  exact ⟨h1, h3, fun i hi => ⟨(lightR_facts (h3 i hi)).1, (lightR_facts (h3 i hi)).2.1⟩, h2.1, h2.2.1⟩

/-! masks -/
theorem nand64 : ∀ x y : Fin 64, (andI x.val y.val == (x.val : Int)) = nandB x.val y.val := by decide +kernel
theorem nand_small {x y : Int} (h1 : 0 ≤ x) (h2 : x ≤ 63) (h3 : 0 ≤ y) (h4 : y ≤ 63) : (andI x y == x) = nandB x y := by
  obtain ⟨n, rfl⟩ := Int.eq_ofNat_of_zero_le h1
  obtain ⟨m, rfl⟩ := Int.eq_ofNat_of_zero_le h3
  exact nand64 ⟨n, by omega⟩ ⟨m, by omega⟩
theorem right_masks {r : Rl} (h : lightR r = true) : 0 ≤ r.mask ∧ r.mask ≤ 63 := by
  unfold lightR rightR at h
  simp only [Bool.and_eq_true, decide_eq_true_eq] at h
  exact h.2.1.2
theorem nand_ok {R : Nat → Rl} {len : Nat} (h : LightAll R len) : NandOk R len := by
  intro i j hi hj
  have a1 := right_masks (h i hi)
  have a2 := right_masks (h j hj)
  have b1 := lightR_facts (h i hi)
  have b2 := lightR_facts (h j hj)
  exact ⟨nand_small a1.1 a1.2 a2.1 a2.2, nand_small (by omega) (by omega) (by omega) (by omega)⟩
end Go.Proofs.Ytolkimdfnlfpbaa
