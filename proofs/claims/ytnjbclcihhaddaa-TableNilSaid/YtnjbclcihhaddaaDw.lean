/- A walk by one law for each operation. Conditions: as each states. -/
import Derived.Test.YtnjbclcihhaddaaA
import Derived.Laws.Rows
import Derived.Deep.MidRow
import Derived.Great.BuildSlice
import Derived.Deep.QuietTactic
import Derived.StillTail
import Derived.IntWalk
set_option linter.unusedVariables false
set_option linter.unusedSimpArgs false
namespace Go.Proofs.Ytnjbclcihhaddaa
open Go.RowKit
section
variable {P : Program} {ops : Array Oper} {rest : List Oper} {o : Oper} {a : Act} {w : World} {Q : Exit → Act → World → Prop}

/-- A list of operations, kept shut. -/
structure WL (P : Program) (ops : Array Oper) (Q : Exit → Act → World → Prop) (l : List Oper) (a : Act) (w : World) : Prop where
  out : wpList P ops Q l a w
theorem wl_region {id : Nat} {l : List Oper} (h : WL P l.toArray Q l a w) : (Code.region id l.toArray false).wp P Q a w := wp_region_lit h.out
theorem wl_nil (h : Q .normal a w) : WL P ops Q [] a w := ⟨wpList_nil h⟩
theorem dw_step (hw : Region.wanted o (yielded ops a.tmps) = true) (h : o.wp P a w (WL P ops Q rest) Q) : WL P ops Q (o :: rest) a w := ⟨by
  unfold wpList; rw [if_pos hw]; exact .inl (Oper.wp_mono (fun _ _ h => h.out) h)⟩
theorem dw_no (hw : Region.wanted o (yielded ops a.tmps) = false) (h : WL P ops Q rest (a.put o.dst undef) w) : WL P ops Q (o :: rest) a w := ⟨by
  unfold wpList; rw [if_neg (by rw [hw]; decide)]; exact h.out⟩
theorem dw_val (hw : Region.wanted o (yielded ops a.tmps) = true) (v : Value) (hr : (execOp a.eval o).run P w = .ok (.value v) w) (h : WL P ops Q rest (a.put o.dst v) w) : WL P ops Q (o :: rest) a w :=
  dw_step hw (by unfold Oper.wp; rw [hr]; exact h)
theorem dw_bool (hw : Region.wanted o (yielded ops a.tmps) = true) (b : Bool) (hr : (execOp a.eval o).run P w = .ok (.value (.bool b)) w)
    (ht : b = true → WL P ops Q rest (a.put o.dst (.bool true)) w) (hf : b = false → WL P ops Q rest (a.put o.dst (.bool false)) w) : WL P ops Q (o :: rest) a w :=
  dw_val hw (.bool b) hr (by cases b; exact hf rfl; exact ht rfl)

theorem run_loadVar_cell (w : World) (ty : TypeId) (ad : Addr) (v : Value) (d : TypeDesc) (hu : P.underlying ty = some d) (hd : d.isRow = false) (hc : w.cell? ad = some v) : (loadVar ty ad).run P w = .ok v w := by
  have hagg : (isAgg ty).run P w = .ok false w := by
    unfold isAgg
    rw [Sem.run_bind, run_underlying hu w]
    cases d <;> simp_all
  simp [loadVar, Sem.run_bind, hagg, hc]
theorem dw_cell (hw : Region.wanted o (yielded ops a.tmps) = true) (ty : TypeId) (x : Operand) (ho : o.op = .load ty x) (b i : Nat) (hx : a.eval x = .pointer (some ⟨b, i, none⟩))
    (cs : List Value) (e : TypeId) (hB : Blk w b cs e) (v : Value) (hv : cs[i]? = some v) (d : TypeDesc) (hu : P.underlying ty = some d) (hd : d.isRow = false)
    (h : WL P ops Q rest (a.put o.dst v) w) : WL P ops Q (o :: rest) a w :=
  dw_val hw v (by
    have hc : w.cell? ⟨b, i, none⟩ = some v := by rw [hB.cell]; exact hv
    unfold execOp
    simp only [ho, hx, Instr.loadAt, Instr.sureAddr, Sem.run_bind, Sem.run_pure, Result.andThen_ok, run_loadVar_cell w ty _ v d hu hd hc]) h
theorem dw_cellAt (hw : Region.wanted o (yielded ops a.tmps) = true) (ty : TypeId) (x : Operand) (ho : o.op = .load ty x) (b i : Nat) (hx : a.eval x = .pointer (some ⟨b, i, none⟩))
    (v : Value) (hc : w.cell? ⟨b, i, none⟩ = some v) (d : TypeDesc) (hu : P.underlying ty = some d) (hd : d.isRow = false)
    (h : WL P ops Q rest (a.put o.dst v) w) : WL P ops Q (o :: rest) a w :=
  dw_val hw v (by
    unfold execOp
    simp only [ho, hx, Instr.loadAt, Instr.sureAddr, Sem.run_bind, Sem.run_pure, Result.andThen_ok, run_loadVar_cell w ty _ v d hu hd hc]) h
theorem Blk.range {w : World} {b i : Nat} {cs vs : List Value} {e : TypeId} (hB : Blk w b cs e) (hv : (cs.drop i).take vs.length = vs) : w.rangeAt b i vs := by
  intro j v hj
  rw [hB.cell]
  have hjl := (List.getElem?_eq_some_iff.1 hj).1
  rw [← hv, List.getElem?_take, if_pos hjl, List.getElem?_drop] at hj
  exact hj
theorem dw_rowAt (hw : Region.wanted o (yielded ops a.tmps) = true) (ty : TypeId) (x : Operand) (ho : o.op = .load ty x) (b i : Nat) (hx : a.eval x = .pointer (some ⟨b, i, none⟩))
    (vs : List Value) (hc : w.rangeAt b i vs) (d : TypeDesc) (hu : P.underlying ty = some d) (hd : d.isRow = true) (hi : (P.info? ty).map (·.size) = some vs.length)
    (h : WL P ops Q rest (a.put o.dst (.agg vs.toArray)) w) : WL P ops Q (o :: rest) a w :=
  dw_val hw (.agg vs.toArray) (by
    unfold execOp
    simp only [ho, hx, Instr.loadAt, Instr.sureAddr, Sem.run_bind, Sem.run_pure, Result.andThen_ok, run_loadVar_mid w b i ty vs d hc hu hd hi]) h
theorem dw_row (hw : Region.wanted o (yielded ops a.tmps) = true) (ty : TypeId) (x : Operand) (ho : o.op = .load ty x) (b i : Nat) (hx : a.eval x = .pointer (some ⟨b, i, none⟩))
    (cs : List Value) (e : TypeId) (hB : Blk w b cs e) (vs : List Value) (hv : (cs.drop i).take vs.length = vs) (d : TypeDesc) (hu : P.underlying ty = some d) (hd : d.isRow = true) (hi : (P.info? ty).map (·.size) = some vs.length)
    (h : WL P ops Q rest (a.put o.dst (.agg vs.toArray)) w) : WL P ops Q (o :: rest) a w :=
  dw_rowAt hw ty x ho b i hx vs (hB.range hv) d hu hd hi h
theorem dw_new (hw : Region.wanted o (yielded ops a.tmps) = true) (cs : List Value) (ty : TypeId) (hr : (execOp a.eval o).run P w = .ok (.value (.pointer (some ⟨w.heap.size, 0, none⟩))) (w.alloc (.cells cs.toArray ty)))
    (h : ∀ (n : Nat) (w' : World), n = w.heap.size → w'.heap.size = n + 1 → Blk w' n cs ty → Touch (fun _ => False) w w' → WL P ops Q rest (a.put o.dst (.pointer (some ⟨n, 0, none⟩))) w') : WL P ops Q (o :: rest) a w :=
  dw_step hw (by unfold Oper.wp; rw [hr]; exact h w.heap.size _ rfl (by simp) (Blk.new w cs ty) (Touch.alloc _ _ _))
theorem setCells_touch (w : World) (b : Nat) : ∀ (vs : List Value) (i : Nat), Touch (· = b) w (w.setCells b i vs)
  | [], i => Touch.refl _ _
  | v :: vs, i => by
    unfold World.setCells
    exact (Touch.setCell w b i v).trans (setCells_touch _ b vs (i + 1)) (fun _ _ h => h)
theorem setCells_blk {b : Nat} {e : TypeId} : ∀ (vs : List Value) (i : Nat) (w : World) (cs : List Value), Blk w b cs e → i + vs.length ≤ cs.length → Blk (w.setCells b i vs) b (cs.take i ++ vs ++ cs.drop (i + vs.length)) e
  | [], i, w, cs, h, hl => by
    have : cs.take i ++ [] ++ cs.drop (i + ([] : List Value).length) = cs := by simp
    rw [this]; exact h
  | v :: vs, i, w, cs, h, hl => by
    unfold World.setCells
    have h1 := h.set i v
    have h2 := setCells_blk vs (i + 1) _ _ h1 (by simp at hl ⊢; omega)
    have e : cs.take i ++ (v :: vs) ++ cs.drop (i + (v :: vs).length) = (cs.set i v).take (i + 1) ++ vs ++ (cs.set i v).drop (i + 1 + vs.length) := by
      have hi : i < cs.length := by simp at hl; omega
      rw [List.set_eq_take_append_cons_drop, if_pos hi]
      have ht : (cs.take i).length = i := by rw [List.length_take]; omega
      have e1 : (cs.take i ++ v :: cs.drop (i + 1)).take (i + 1) = cs.take i ++ [v] := by
        rw [List.take_append, ht, List.take_of_length_le (by omega)]
        simp
      have e2 : (cs.take i ++ v :: cs.drop (i + 1)).drop (i + 1 + vs.length) = cs.drop (i + (v :: vs).length) := by
        rw [List.drop_append, ht, List.drop_of_length_le (by rw [ht]; omega)]
        rw [show i + 1 + vs.length - i = vs.length + 1 by omega]
        simp
        congr 1
        omega
      rw [e1, e2]
      simp
    rw [e]; exact h2
theorem Blk.there {w : World} {b i n : Nat} {cs : List Value} {e : TypeId} (hB : Blk w b cs e) (h : i + n ≤ cs.length) : w.there b i n := by
  intro j hj
  rw [hB.cell, hB.frozen]
  exact ⟨by rw [List.getElem?_eq_getElem (by omega)]; rfl, rfl⟩
theorem dw_put (hw : Region.wanted o (yielded ops a.tmps) = true) (ty : TypeId) (x y : Operand) (ho : o.op = .store ty x y) (b i : Nat) (hx : a.eval x = .pointer (some ⟨b, i, none⟩)) (v : Value) (hy : a.eval y = v)
    (cs : List Value) (e : TypeId) (hB : Blk w b cs e) (vs : List Value) (hv : v.cells = vs.toArray) (hl : i + vs.length ≤ cs.length) (hi : (P.info? ty).map (·.size) = some vs.length) (h1 : vs.all (·.oneCell') = true)
    (cs' : List Value) (hcs : cs.take i ++ vs ++ cs.drop (i + vs.length) = cs')
    (h : ∀ w' : World, Blk w' b cs' e → Touch (· = b) w w' → w'.heap.size = w.heap.size → WL P ops Q rest (a.put o.dst undef) w') : WL P ops Q (o :: rest) a w := by
  subst hcs
  have ht := hB.there hl
  have hr : (storeVar ty ⟨b, i, none⟩ v).run P w = .ok () (w.setCells b i vs) := by
    have := run_storeCells_cells (P := P) b i vs 0 w (fun j hj => by simpa using (ht j hj).1) (fun j hj => by simpa using (ht j hj).2)
      (fun v hv => List.all_eq_true.1 h1 v hv)
    cases hq : P.info? ty with
    | none => simp [hq] at hi
    | some inf =>
      have hs : vs.length = inf.size := by simp [hq] at hi; omega
      simp only [Nat.add_zero] at this
      simp [storeVar, sizeOf, typeInfo, hq, hv, hs, this]
  refine dw_step hw ?_
  unfold Oper.wp execOp
  simp only [ho, hx, hy, Instr.storeAt, Instr.sureAddr, Sem.run_bind, Sem.run_pure, Result.andThen_ok, hr]
  have hsz : ∀ (vs : List Value) (i : Nat) (w : World), (w.setCells b i vs).heap.size = w.heap.size := by
    intro vs
    induction vs with
    | nil => intro i w; rfl
    | cons v vs ih => intro i w; unfold World.setCells; rw [ih]; simp
  exact h _ (setCells_blk vs i w cs hB hl) (setCells_touch w b vs i) (hsz vs i w)
theorem dw_call (hw : Region.wanted o (yielded ops a.tmps) = true) (f : Nat) (vs : Array Value) (he : (execOp a.eval o).run P w = .ok (.enter f vs) w) (R : Value → World → Prop)
    (hc : Calls P f vs w fun e w' => ∃ v, e = .returned v ∧ R v w') (h : ∀ v w', R v w' → WL P ops Q rest (a.put o.dst v) w') : WL P ops Q (o :: rest) a w := by
  refine dw_step hw ?_
  unfold Oper.wp
  rw [he, Oper.upon_enter]
  refine Calls.mono hc ?_
  rintro e w' ⟨v, rfl, hR⟩
  exact h v w' hR
theorem dw_enter (hw : Region.wanted o (yielded ops a.tmps) = true) (f : Nat) (vs : Array Value) (he : (execOp a.eval o).run P w = .ok (.enter f vs) w)
    (hc : Calls P f vs w fun e w' => ∃ v, e = .returned v ∧ WL P ops Q rest (a.put o.dst v) w') : WL P ops Q (o :: rest) a w :=
  dw_call hw f vs he _ hc (fun _ _ h => h)
theorem ev_index (t e : TypeId) (x ix : Operand) (ho : o.op = .indexAddr t x ix) (b i n c k sz : Nat) (q : IntKind) (hx : a.eval x = .slice (some ⟨b, i, none⟩) n c) (hix : a.eval ix = .int q k)
    (hk : k < n) (hu : P.underlying t = some (.slice e)) (hs : (P.info? e).map (·.size) = some sz) (p : Nat) (hp : p = i + k * sz) :
    (execOp a.eval o).run P w = .ok (.value (.pointer (some ⟨b, p, none⟩))) w := by
  subst hp
  cases hq : P.info? e with
  | none => simp [hq] at hs
  | some inf =>
    have hsz : inf.size = sz := by simpa [hq] using hs
    have h1 : (0 : Int) ≤ k ∧ (k : Int) < n := by omega
    unfold execOp
    simp only [ho, hx, hix]
    simp [Instr.indexAt, asIntOf, run_underlying hu, h1, sizeOf, typeInfo, hq, hsz, hk, Addr.add_mid]
theorem ev_arr (t e N : TypeId) (x ix : Operand) (ho : o.op = .indexAddr t x ix) (b i k sz : Nat) (q : IntKind) (hx : a.eval x = .pointer (some ⟨b, i, none⟩)) (hix : a.eval ix = .int q k)
    (hk : k < N) (hu : P.underlying t = some (.array N e)) (hs : (P.info? e).map (·.size) = some sz) (p : Nat) (hp : p = i + k * sz) :
    (execOp a.eval o).run P w = .ok (.value (.pointer (some ⟨b, p, none⟩))) w := by
  subst hp
  cases hq : P.info? e with
  | none => simp [hq] at hs
  | some inf =>
    have hsz : inf.size = sz := by simpa [hq] using hs
    have h1 : (0 : Int) ≤ k ∧ (k : Int) < N := by omega
    unfold execOp
    simp only [ho, hx, hix]
    simp [Instr.indexAt, asIntOf, run_underlying hu, h1, sizeOf, typeInfo, hq, hsz, hk, Addr.add_mid, Instr.sureAddr]
theorem ev_cell (ty : TypeId) (x : Operand) (ho : o.op = .load ty x) (b i : Nat) (hx : a.eval x = .pointer (some ⟨b, i, none⟩))
    (v : Value) (hc : w.cell? ⟨b, i, none⟩ = some v) (d : TypeDesc) (hu : P.underlying ty = some d) (hd : d.isRow = false) : (execOp a.eval o).run P w = .ok (.value v) w := by
  unfold execOp
  simp only [ho, hx, Instr.loadAt, Instr.sureAddr, Sem.run_bind, Sem.run_pure, Result.andThen_ok, run_loadVar_cell w ty _ v d hu hd hc]
theorem ev_row (ty : TypeId) (x : Operand) (ho : o.op = .load ty x) (b i : Nat) (hx : a.eval x = .pointer (some ⟨b, i, none⟩))
    (vs : List Value) (hc : w.rangeAt b i vs) (d : TypeDesc) (hu : P.underlying ty = some d) (hd : d.isRow = true) (hi : (P.info? ty).map (·.size) = some vs.length) : (execOp a.eval o).run P w = .ok (.value (.agg vs.toArray)) w := by
  unfold execOp
  simp only [ho, hx, Instr.loadAt, Instr.sureAddr, Sem.run_bind, Sem.run_pure, Result.andThen_ok, run_loadVar_mid w b i ty vs d hc hu hd hi]
theorem dw_val2 (hw : Region.wanted o (yielded ops a.tmps) = true) (v0 v : Value) (hr : (execOp a.eval o).run P w = .ok (.value v0) w) (e : v0 = v) (h : WL P ops Q rest (a.put o.dst v) w) : WL P ops Q (o :: rest) a w :=
  dw_val hw v (e ▸ hr) h
/-- A list of operations in whatever order, in a class of worlds, kept shut. -/
structure WQ (P : Program) (ops : Array Oper) (C : World → Prop) (G : Act → Prop) (l : List Oper) (a : Act) : Prop where
  out : wpQuiet P ops C G l a
section
variable {C : World → Prop} {G : Act → Prop}
theorem wq_region {id : Nat} {l : List Oper} (C : World → Prop) (hm : P.follows .mixedOrders = true) (hB : Region.lexB .any l.toArray = true) (h0 : C w.drew)
    (h : WQ P l.toArray C (fun a' => ∀ w', C w' → Q .normal a' w') l a) : (Code.region id l.toArray true).wp P Q a w := by
  refine wp_region_quiet (C := C) hm hB h0 ?_
  exact h.out
theorem wq_nil (h : G a) : WQ P ops C G [] a := ⟨wpQuiet_nil h⟩
theorem dq_no (hw : Region.wanted o (yielded ops a.tmps) = false) (h : WQ P ops C G rest (a.put o.dst undef)) : WQ P ops C G (o :: rest) a := ⟨by
  unfold wpQuiet; rw [if_neg (by rw [hw]; decide)]; exact h.out⟩
theorem dq_val (hw : Region.wanted o (yielded ops a.tmps) = true) (v : Value) (hr : ∀ w, C w → (execOp a.eval o).run P w = .ok (.value v) w) (h : WQ P ops C G rest (a.put o.dst v)) : WQ P ops C G (o :: rest) a := ⟨by
  unfold wpQuiet; rw [if_pos hw]
  refine ⟨v, fun w hC => ?_, h.out⟩
  unfold Oper.quietAt
  rw [hr w hC]
  exact ⟨rfl, rfl⟩⟩
theorem dq_bool (hw : Region.wanted o (yielded ops a.tmps) = true) (b : Bool) (hr : ∀ w, C w → (execOp a.eval o).run P w = .ok (.value (.bool b)) w)
    (ht : b = true → WQ P ops C G rest (a.put o.dst (.bool true))) (hf : b = false → WQ P ops C G rest (a.put o.dst (.bool false))) : WQ P ops C G (o :: rest) a :=
  dq_val hw (.bool b) hr (by cases b; exact hf rfl; exact ht rfl)
theorem dq_ret (hw : Region.wanted o (yielded ops a.tmps) = true) (f : Nat) (vs : Array Value) (he : ∀ w, C w → (execOp a.eval o).run P w = .ok (.enter f vs) w) {v : Value} {R : World → World → Prop}
    (hc : ∀ w, C w → Calls P f vs w fun e w' => e = .returned v ∧ R w w') (hR : ∀ w w', C w → R w w' → C w') (h : WQ P ops C G rest (a.put o.dst v)) : WQ P ops C G (o :: rest) a := ⟨by
  unfold wpQuiet; rw [if_pos hw]
  refine ⟨v, fun w hC => ?_, h.out⟩
  unfold Oper.quietAt
  rw [he w hC]
  exact ⟨rfl, (hc w hC).mono fun e w' ⟨h1, h2⟩ => ⟨h1, hR w w' hC h2⟩⟩⟩
end
/-- Operations that only read, in whatever order, then forced ones. -/
structure WS (P : Program) (ops : Array Oper) (w : World) (G : Act → Prop) (l : List Oper) (a : Act) : Prop where
  out : wpStill P ops w G l a
section
variable {G : Act → Prop}
theorem ws_region {id : Nat} {l : List Oper} (n : Nat) (hm : P.follows .mixedOrders = true) (hB : Region.lexTailB .any l.toArray n = true)
    (h : ∀ wd, Touch (fun _ => False) w wd → wd.heap.size = w.heap.size → WS P l.toArray wd (fun a' => WL P l.toArray Q (l.drop n) a' wd) (l.take n) a) : (Code.region id l.toArray true).wp P Q a w := by
  refine wp_region_still_tail n hm hB ?_
  have h1 := (h w.drew (Touch.refl _ _).drew rfl).out
  have e : (fun a' => WL P l.toArray Q (l.drop n) a' w.drew) = (fun a' => wpList P l.toArray Q (l.drop n) a' w.drew) := by
    funext a'; exact propext ⟨fun h => h.out, fun h => ⟨h⟩⟩
  rw [e] at h1
  exact h1
theorem ws_nil (h : G a) : WS P ops w G [] a := ⟨wpStill_nil h⟩
theorem ds_no (hw : Region.wanted o (yielded ops a.tmps) = false) (h : WS P ops w G rest (a.put o.dst undef)) : WS P ops w G (o :: rest) a := ⟨by
  unfold wpStill; rw [if_neg (by rw [hw]; decide)]; exact h.out⟩
theorem ds_val (hw : Region.wanted o (yielded ops a.tmps) = true) (v : Value) (hr : (execOp a.eval o).run P w = .ok (.value v) w) (h : WS P ops w G rest (a.put o.dst v)) : WS P ops w G (o :: rest) a := ⟨by
  unfold wpStill; rw [if_pos hw]
  unfold Oper.still
  rw [hr]
  exact ⟨rfl, h.out⟩⟩
theorem ds_bool (hw : Region.wanted o (yielded ops a.tmps) = true) (b : Bool) (hr : (execOp a.eval o).run P w = .ok (.value (.bool b)) w)
    (ht : b = true → WS P ops w G rest (a.put o.dst (.bool true))) (hf : b = false → WS P ops w G rest (a.put o.dst (.bool false))) : WS P ops w G (o :: rest) a :=
  ds_val hw (.bool b) hr (by cases b; exact hf rfl; exact ht rfl)
end
theorem then_normal {K : Act → World → Prop} (h : K a w) : Exit.then K Q .normal a w := h
theorem dw_append (hg : o.guard = none) (s x : Operand) (t : TypeId) (ho : o.op = .call { callee := .builtin .append, args := #[s, x], argTypes := #[t, t] })
    (base : Nat) (e : TypeId) (i : TypeInfo) (z : Value) (size bytes : Nat) (ht : P.underlying t = some (.slice e)) (hi : P.info? e = some i) (hz : i.zero = some z)
    (hsize : i.size = size) (hby : i.bytes = bytes) (hzs : z.cells.size = size) (hsz : 0 < size)
    (v : Value) (n : Nat) (xs : List Value) (hs : a.eval s = v) (hown : w.ownsRow base e size v n xs)
    (b m c : Nat) (news : List Value) (e' : TypeId) (hx : a.eval x = .slice (some ⟨b, 0, none⟩) m c) (hl : news.length = m * size) (hB : Blk w b news e') (h1 : news.all (·.oneCell') = true)
    (h63 : n + m ≤ maxLen) (hbytes : (n + m) * bytes ≤ 140737488355328) (hbase : base ≤ w.heap.size)
    (h : ∀ v' w', w'.ownsRow base e size v' (n + m) (xs ++ news) → Touch (fun k => some k = v.ownBlock) w w' → (∀ k, some k = v.ownBlock → base ≤ k) → WL P ops Q rest (a.put o.dst v') w') : WL P ops Q (o :: rest) a w :=
  ⟨wpList_append_own w hg s x t ho base e i z size bytes ht hi hz hsize hby hzs hsz v n xs hs hown ⟨b, 0, none⟩ m c news hx hl
    (fun j u hj => by rw [Addr.add_mid, Nat.zero_add, hB.cell]; exact hj) (fun u hu => List.all_eq_true.1 h1 u hu) h63 hbytes hbase
    (fun v' w' h2 h3 h4 => (h v' w' h2 (Touch.grown h3) (fun k hk => (hown.lt k hk.symm).1)).out)⟩
theorem dw_ret (hw : Region.wanted o (yielded ops a.tmps) = true) (f : Nat) (vs : Array Value) (he : (execOp a.eval o).run P w = .ok (.enter f vs) w) {v : Value} {R : World → Prop}
    (hc : Calls P f vs w fun e w' => e = .returned v ∧ R w') (h : ∀ w', R w' → WL P ops Q rest (a.put o.dst v) w') : WL P ops Q (o :: rest) a w :=
  dw_enter hw f vs he (hc.mono fun e w' ⟨h1, h2⟩ => ⟨v, h1, h w' h2⟩)
theorem dw_newSlice (hw : Region.wanted o (yielded ops a.tmps) = true) (cs : List Value) (ty n : Nat) (hr : (execOp a.eval o).run P w = .ok (.value (.slice (some ⟨w.heap.size, 0, none⟩) n n)) (w.alloc (.cells cs.toArray ty)))
    (h : ∀ (b : Nat) (w' : World), b = w.heap.size → w'.heap.size = b + 1 → Blk w' b cs ty → Touch (fun _ => False) w w' → WL P ops Q rest (a.put o.dst (.slice (some ⟨b, 0, none⟩) n n)) w') : WL P ops Q (o :: rest) a w :=
  dw_step hw (by unfold Oper.wp; rw [hr]; exact h w.heap.size _ rfl (by simp) (Blk.new w cs ty) (Touch.alloc _ _ _))
theorem ret_then {K : Act → World → Prop} (h : Q .ret a w) : Exit.then K Q .ret a w := h
theorem ret_block {id : Nat} (h : Q .ret a w) : Exit.inBlock id Q .ret a w := h
theorem dw_index (hw : Region.wanted o (yielded ops a.tmps) = true) (t e : TypeId) (x ix : Operand) (ho : o.op = .indexAddr t x ix) (b i n c k sz : Nat) (q : IntKind) (hx : a.eval x = .slice (some ⟨b, i, none⟩) n c) (hix : a.eval ix = .int q k)
    (hk : k < n) (hu : P.underlying t = some (.slice e)) (hs : (P.info? e).map (·.size) = some sz) (p : Nat) (hp : p = i + k * sz)
    (h : WL P ops Q rest (a.put o.dst (.pointer (some ⟨b, p, none⟩))) w) : WL P ops Q (o :: rest) a w :=
  dw_val hw _ (by
    subst hp
    cases hq : P.info? e with
    | none => simp [hq] at hs
    | some inf =>
      have hsz : inf.size = sz := by simpa [hq] using hs
      have h1 : (0 : Int) ≤ k ∧ (k : Int) < n := by omega
      unfold execOp
      simp only [ho, hx, hix]
      simp [Instr.indexAt, asIntOf, run_underlying hu, h1, sizeOf, typeInfo, hq, hsz, hk, Addr.add_mid]) h
end
end Go.Proofs.Ytnjbclcihhaddaa
