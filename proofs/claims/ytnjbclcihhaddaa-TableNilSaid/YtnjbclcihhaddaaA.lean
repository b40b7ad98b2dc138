/- Worlds before and behind; a row of counters in memory. No condition beyond what each states. -/
import Derived.Test.YtnjbclcihhaddaaLib
import Derived.Test.YtnjbclcihhaddaaProg
set_option linter.unusedVariables false
set_option linter.unusedSimpArgs false
namespace Go.Proofs.Ytnjbclcihhaddaa
open Go.RowKit

/-- Of the blocks that are there only those in S may have turned. -/
structure Touch (S : Nat → Prop) (w w' : World) : Prop where
  os : w'.os = w.os
  tape : w'.tape = w.tape
  output : w'.output = w.output
  size : w.heap.size ≤ w'.heap.size
  block : ∀ k, k < w.heap.size → ¬ S k → w'.heap[k]? = w.heap[k]?

theorem Touch.refl (S : Nat → Prop) (w : World) : Touch S w w := ⟨rfl, rfl, rfl, Nat.le_refl _, fun _ _ _ => rfl⟩
theorem Touch.trans {S S' : Nat → Prop} {a b c : World} (h : Touch S a b) (k : Touch S' b c) (hs : ∀ i, i < a.heap.size → S' i → S i) : Touch S a c :=
  ⟨k.os.trans h.os, k.tape.trans h.tape, k.output.trans h.output, Nat.le_trans h.size k.size, fun i hi hn =>
    (k.block i (Nat.lt_of_lt_of_le hi h.size) (fun x => hn (hs i hi x))).trans (h.block i hi hn)⟩
theorem Touch.mono {S S' : Nat → Prop} {a b : World} (h : Touch S a b) (hs : ∀ i, i < a.heap.size → S i → S' i) : Touch S' a b :=
  ⟨h.os, h.tape, h.output, h.size, fun i hi hn => h.block i hi (fun x => hn (hs i hi x))⟩
theorem Touch.of_below {w w' : World} (h : Below w.heap.size w w') (S : Nat → Prop) : Touch S w w' := ⟨h.os, h.tape, h.output, h.size, fun i hi _ => h.block i hi⟩
theorem Touch.below {S : Nat → Prop} {w w' : World} {B : Nat} (h : Touch S w w') (hB : B ≤ w.heap.size) (hs : ∀ i, i < B → ¬ S i) : Below B w w' :=
  ⟨h.os, h.tape, h.output, h.size, fun i hi => h.block i (Nat.lt_of_lt_of_le hi hB) (hs i hi)⟩
theorem Touch.drew {S : Nat → Prop} {a w : World} (h : Touch S a w) : Touch S a w.drew := ⟨h.os, h.tape, h.output, h.size, h.block⟩
theorem Touch.drewN {S : Nat → Prop} {a w : World} (h : Touch S a w) (n : Nat) : Touch S a (w.drewN n) := ⟨h.os, h.tape, h.output, h.size, h.block⟩
theorem Touch.alloc (S : Nat → Prop) (w : World) (o : Obj) : Touch S w (w.alloc o) :=
  ⟨rfl, rfl, rfl, by simp, fun k hk _ => Below.heap_alloc _ _ _ hk⟩
theorem Touch.setCell (w : World) (b i : Nat) (v : Value) : Touch (· = b) w (w.setCell ⟨b, i, none⟩ v) :=
  ⟨rfl, rfl, rfl, by simp, fun k hk hn => Below.heap_setCell _ _ _ _ hn⟩
theorem Touch.grown {w w' : World} {r : Option Nat} (h : w.grownBy w' r) : Touch (fun k => some k = r) w w' :=
  ⟨h.os, h.tape, h.output, h.size, fun k hk hn => h.block k hk hn⟩

/-- A block of plain cells. -/
def Blk (w : World) (b : Nat) (cs : List Value) (e : TypeId) : Prop := w.heap[b]? = some (.cells cs.toArray e (0, 0))
theorem Blk.lt {w : World} {b : Nat} {cs : List Value} {e : TypeId} (h : Blk w b cs e) : b < w.heap.size := (Array.getElem?_eq_some_iff.1 h).1
theorem Blk.cell {w : World} {b : Nat} {cs : List Value} {e : TypeId} (h : Blk w b cs e) (i : Nat) : w.cell? ⟨b, i, none⟩ = cs[i]? := by
  unfold Blk at h; simp [World.cell?, h]
theorem Blk.frozen {w : World} {b : Nat} {cs : List Value} {e : TypeId} (h : Blk w b cs e) (i : Nat) : w.frozen? ⟨b, i, none⟩ = false := by
  unfold Blk at h; simp [World.frozen?, h]
theorem Blk.set {w : World} {b : Nat} {cs : List Value} {e : TypeId} (h : Blk w b cs e) (i : Nat) (v : Value) : Blk (w.setCell ⟨b, i, none⟩ v) b (cs.set i v) e := by
  unfold Blk at *
  simp [World.setCell, Array.getElem?_modify, h]
theorem Blk.keep {S : Nat → Prop} {w w' : World} {b : Nat} {cs : List Value} {e : TypeId} (h : Blk w b cs e) (t : Touch S w w') (hs : ¬ S b) : Blk w' b cs e := by
  have hl := h.lt
  unfold Blk at *
  rw [t.block b hl hs]; exact h
theorem Blk.below {w w' : World} {B b : Nat} {cs : List Value} {e : TypeId} (h : Blk w b cs e) (t : Below B w w') (hb : b < B) : Blk w' b cs e := by
  unfold Blk at *
  rw [t.block b hb]; exact h
theorem Blk.new (w : World) (cs : List Value) (e : TypeId) : Blk (w.alloc (.cells cs.toArray e)) w.heap.size cs e := by
  show (w.heap.push _)[w.heap.size]? = _
  simp

theorem Touch.cell {S : Nat → Prop} {w w' : World} (t : Touch S w w') {b : Nat} (hb : b < w.heap.size) (hs : ¬ S b) (i : Nat) : w'.cell? ⟨b, i, none⟩ = w.cell? ⟨b, i, none⟩ :=
  World.cell?_of_block (w := w) (t.block b hb hs)
theorem Touch.none {w w' : World} (h : Below w.heap.size w w') : Touch (fun _ => False) w w' := Touch.of_below h _
theorem Touch.toBelow {w w' : World} (h : Touch (fun _ => False) w w') : Below w.heap.size w w' := h.below (Nat.le_refl _) (fun _ _ x => x)
theorem below_then {S : Nat → Prop} {B : Nat} {w w1 w2 : World} (h : Below B w w1) (hB : B ≤ w.heap.size) (t : Touch S w1 w2) (hs : ∀ i, i < B → ¬ S i) : Below B w w2 :=
  ⟨t.os.trans h.os, t.tape.trans h.tape, t.output.trans h.output, Nat.le_trans h.size t.size, fun i hi => (t.block i (by have := h.size; omega) (hs i hi)).trans (h.block i hi)⟩
theorem frozen_keep {w w' : World} {g : Nat} (t : Touch (fun _ => False) w w') (hg : g < w.heap.size) {i : Nat} (h : w.frozen? ⟨g, i, Option.none⟩ = false) : w'.frozen? ⟨g, i, Option.none⟩ = false := by
  unfold World.frozen? at *
  rw [t.block g hg (fun x => x)]; exact h
end Go.Proofs.Ytnjbclcihhaddaa
