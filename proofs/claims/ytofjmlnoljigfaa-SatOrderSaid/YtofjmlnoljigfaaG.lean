/- What Ints, and the reference's Row's Clear, Sum, New answer. Conditions: the rows stand there. -/
import Derived.Test.YtofjmlnoljigfaaF
import Derived.Deep.Light
set_option linter.unusedVariables false
set_option linter.unusedSimpArgs false
namespace Go.Proofs.Ytofjmlnoljigfaa
open Go.RowKit

/-- A slice that reads as l. -/
def SL (w : World) (v : Value) (l : List Int) : Prop :=
  (v = .slice none 0 0 ∧ l = []) ∨ ∃ g cap, v = .slice (some ⟨g, 0, none⟩) l.length cap ∧ ∀ j, j < l.length → w.cell? ⟨g, j, none⟩ = some (.int .i64 (l.getD j 0))
theorem SL.of_own {w : World} {B : Nat} {v : Value} {l : List Int} (h : w.ownsRow B 3 1 v l.length (ints l)) : SL w v l := by
  rcases own_open h with h | ⟨g, cap, h, _, _, _, _, hc, _⟩
  · exact .inl h
  · exact .inr ⟨g, cap, h, hc⟩
theorem SL.of_blk {w : World} {r : Nat} {l : List Int} (h : Blk w r (ints l) 3) : SL w (.slice (some ⟨r, 0, none⟩) l.length l.length) l := by
  refine .inr ⟨r, l.length, rfl, fun j hj => ?_⟩
  rw [h.cell]; simp [ints, List.getD_eq_getElem?_getD, hj]

theorem ints_nil (w : World) : Calls Try.prog 12 #[.slice none 0 0, .slice none 0 0] w fun e w' => e = .returned (.bool true) ∧ w = w' := by
  go_enter Try.func12, Try.ntmps12
  go_wp2_with (fail)
  refine wp_loop_once ?_
  go_wp2_with (fail)
  go_ret
  exact ⟨rfl, rfl⟩

set_option maxRecDepth 100000 in
theorem ints_any {w : World} {u v : Value} {l : List Int} (hu : SL w u l) (hv : SL w v l) (hl : l.length ≤ 64) :
    Calls Try.prog 12 #[u, v] w fun e w' => e = .returned (.bool true) ∧ ∃ n, w' = w.drewN n := by
  by_cases h0 : l = []
  · subst h0
    rcases hu with ⟨rfl, _⟩ | ⟨g, cap, rfl, _⟩ <;> rcases hv with ⟨rfl, _⟩ | ⟨g', cap', rfl, _⟩
    all_goals
      try simp only [List.length_nil]
      clear hl
      go_enter Try.func12, Try.ntmps12
      go_wp2_with (fail)
      refine wp_loop_once ?_
      go_wp2_with (fail)
      go_ret
      exact ⟨rfl, 0, rfl⟩
  · rcases hu with ⟨_, h⟩ | ⟨g, cap, rfl, hc⟩
    · exact absurd h h0
    rcases hv with ⟨_, h⟩ | ⟨g', cap', rfl, hc'⟩
    · exact absurd h h0
    have HC := Lib.hid hc
    have HC' := Lib.hid hc'
    clear hc hc' h0
    go_enter Try.func12, Try.ntmps12
    go_wp2_with (fail)
    go_loopw [5] (fun i wr => ∃ k n : Nat, k ≤ l.length ∧ i = .int .i64 k ∧ wr = w.drewN n) (fun i _ => l.length - (intOf i).toNat)
    case atStart => exact ⟨0, 0, Nat.zero_le _, rfl, rfl⟩
    case round =>
      obtain ⟨k, n, hk, rfl, rfl⟩ := hrel
      by_cases hlt : k < l.length
      · have c := HC.out k hlt
        have c' := HC'.out k hlt
        generalize l.getD k 0 = x at *
        have hki : (k : Int) < l.length := by omega
        go_wp2_with (fail)
        go_quiet (fail)
        go_wp2_with (fail)
        go_light
        go_roundw
        case rel => exact ⟨k + 1, n + nq, by omega, by go_num, rfl⟩
        case measure => simp [intOf]; omega
      · obtain rfl : k = l.length := by omega
        go_wp2_with (fail)
        go_ret
        exact ⟨rfl, _, rfl⟩

theorem made_ints (n : Nat) : madeCells #[Value.int .i64 0] n = (ints (List.replicate n 0)).toArray := by
  apply Array.ext_getElem?
  intro i
  by_cases h : i < n
  · simp [madeCells, ints, h, Nat.mod_one, List.getElem?_replicate]
  · simp [madeCells, ints, h, Nat.mod_one, List.getElem?_replicate]

theorem rclear_any {w : World} {q r : Nat} {V : List Int} {top : Int} (h : Ref w q r V top) (hl : V.length ≤ 64) :
    Calls Try.prog 14 #[.pointer (some ⟨q, 0, none⟩)] w fun e w' => e = .returned (.slice (some ⟨r, 0, none⟩) V.length V.length) ∧ Ref w' q w.heap.size (List.replicate V.length 0) top ∧ Touch (· = q) w w' := by
  have c0 := h.c0
  have c0' : (w.alloc (.cells (madeCells #[.int .i64 0] V.length) 3)).cell? ⟨q, 0, none⟩ = some (.slice (some ⟨r, 0, none⟩) V.length V.length) := (h.keep (Touch.alloc (fun _ => False) w _) (fun x => x) (fun x => x)).c0
  have hmk := run_make_row' (P := Try.prog) 34 3 (.int .i64 0) 8 Try.underlying34 info3 rfl .i64 .i64 V.length (by omega) (by omega) w
  have fr : (w.alloc (.cells (madeCells #[.int .i64 0] V.length) 3)).frozen? ⟨q, 0, none⟩ = false := (h.blk.keep (Touch.alloc (fun _ => False) w _) (fun x => x)).frozen 0
  have HR := Lib.hid h
  clear h
  have hset := Lib.hid (show Ref ((w.alloc (.cells (madeCells #[.int .i64 0] V.length) 3)).setCell ⟨q, 0, none⟩ (.slice (some ⟨w.heap.size, 0, none⟩) V.length V.length)) q w.heap.size (List.replicate V.length 0) top from by
    have hb := (HR.out.blk.keep (Touch.alloc (fun _ => False) w (.cells (madeCells #[.int .i64 0] V.length) 3)) (fun x => x)).set 0 (.slice (some ⟨w.heap.size, 0, none⟩) V.length V.length)
    have hn := Blk.new w (ints (List.replicate V.length 0)) 3
    have hlt := HR.out.blk.lt
    rw [← made_ints] at hn
    refine ⟨?_, hn.keep (Touch.setCell _ q 0 _) (by omega), by omega⟩
    rw [List.length_replicate]; exact hb)
  generalize hA : w.alloc (.cells (madeCells #[.int .i64 0] V.length) 3) = wA at *
  have HA := Lib.hid hA
  clear hA
  go_enter Try.func14, Try.ntmps14
  go_wp2_with (fail)
  go_ret
  exact ⟨rfl, hset.out, (HA.out ▸ Touch.alloc (· = q) w _).trans (Touch.setCell _ q 0 _) (fun _ _ x => x)⟩

theorem full (top : Int) (l : List Int) (h : ∀ n ∈ l, 0 ≤ n) : l.foldl (fun s n => moreI top s n) top = top := by
  induction l with
  | nil => rfl
  | cons a l ih =>
    have ha := h a (by simp)
    have : moreI top top a = top := by unfold moreI; split <;> omega
    rw [List.foldl_cons, this]; exact ih (fun n hn => h n (by simp [hn]))
theorem sum_full {top : Int} {V : List Int} (h : ∀ n ∈ V, 0 ≤ n) (k : Nat) (hk : k < V.length) (hs : top - sumL top (V.take k) < V.getD k 0) : sumL top V = top := by
  have e : V = V.take k ++ (V.getD k 0 :: V.drop (k + 1)) := by
    rw [List.getD_eq_getElem?_getD, List.getElem?_eq_getElem hk]
    simp
  have hm : moreI top (sumL top (V.take k)) (V.getD k 0) = top := by unfold moreI; rw [if_pos hs]
  have : sumL top V = sumL top (V.take k ++ (V.getD k 0 :: V.drop (k + 1))) := congrArg _ e
  rw [this]
  unfold sumL at *
  rw [List.foldl_append, List.foldl_cons, hm]
  exact full top _ (fun n hn => h n (List.mem_of_mem_drop hn))

set_option maxRecDepth 100000 in
theorem rsum_any {w : World} {q r : Nat} {V : List Int} {top : Int} (h : Ref w q r V top) (hl : V.length ≤ 64) (hc : ∀ n ∈ V, 0 ≤ n ∧ n ≤ top) (h0 : 0 ≤ top) (ht : top ≤ 9223372036854775807) :
    Calls Try.prog 18 #[.pointer (some ⟨q, 0, none⟩)] w fun e w' => e = .returned (.int .i64 (sumL top V)) ∧ ∃ n, w' = w.drewN n := by
  have c0 := h.c0
  have c1 := h.c1
  have HA := Lib.hid h.at
  have HC := Lib.hid hc
  have HF := Lib.hid (fun k => sum_full (top := top) (fun n hn => (hc n hn).1) k)
  clear h hc
  go_enter Try.func18, Try.ntmps18
  go_wp2_with (fail)
  go_loopw [3, 4] (fun x i wr => ∃ k n : Nat, k ≤ V.length ∧ i = .int .i64 k ∧ x = .int .i64 (sumL top (V.take k)) ∧ wr = w.drewN n) (fun _ i _ => V.length - (intOf i).toNat)
  case atStart => exact ⟨0, 0, Nat.zero_le _, rfl, rfl, rfl⟩
  case round =>
    obtain ⟨k, n, hk, rfl, rfl, rfl⟩ := hrel
    by_cases hlt : k < V.length
    · have c := HA.out k hlt
      have hss := Lib.hid (sumL_snoc top (V.take k) (V.getD k 0))
      have htk := Lib.hid (take_one V k 0 hlt)
      have hx0 : V.getD k 0 ∈ V := by rw [List.getD_eq_getElem?_getD, List.getElem?_eq_getElem hlt]; exact List.getElem_mem hlt
      have hx := HC.out _ hx0
      have hsl := sumL_le top h0 (V.take k) (fun n hn => (HC.out n (List.mem_of_mem_take hn)).1)
      have HFk := Lib.hid (HF.out k hlt)
      have HM := Lib.hid (show moreI top (sumL top (V.take k)) (V.getD k 0) = if top - sumL top (V.take k) < V.getD k 0 then top else sumL top (V.take k) + V.getD k 0 from rfl)
      clear hx0
      generalize sumL top (V.take k) = s at *
      generalize V.getD k 0 = x at *
      have hki : (k : Int) < V.length := by omega
      by_cases hb : top - s < x
      · go_wp2_with (fail)
        go_quiet (fail)
        go_wp2_with (fail)
        go_ret
        refine ⟨?_, _, rfl⟩
        rw [HFk.out hb]; rfl
      · have hb2 : x ≤ top - s := by omega
        go_wp2_with (fail)
        go_quiet (fail)
        go_wp2_with (fail)
        go_light
        go_roundw
        case rel => exact ⟨k + 1, n + nq, by omega, by go_num, by rw [htk.out, hss.out, HM.out, if_neg (by omega)], rfl⟩
        case measure => simp [intOf]; omega
    · obtain rfl : k = V.length := by omega
      go_wp2_with (fail)
      go_ret
      refine ⟨?_, _, rfl⟩
      rw [List.take_length]; rfl

theorem rnew_no (size top : Int) (w : World) (h : ¬ (1 ≤ size ∧ size ≤ 64 ∧ 1 ≤ top)) :
    Calls Try.prog 9 #[.int .i64 size, .int .i64 top] w fun e w' => (∃ p, e = .returned (.tuple #[.pointer (some p), .int .i64 1])) ∧ Below w.heap.size w w' := by
  by_cases h1 : 1 ≤ size
  · by_cases h2 : size ≤ 64
    · have h3 : ¬ 1 ≤ top := by omega
      clear h
      go_enter Try.func9, Try.ntmps9
      go_wp2
      go_ret2
      exact ⟨⟨_, rfl⟩, (Touch.alloc (fun _ => False) w _).below (Nat.le_refl _) (fun _ _ h => h)⟩
    all_goals
      clear h
      go_enter Try.func9, Try.ntmps9
      go_wp2
      go_ret2
      exact ⟨⟨_, rfl⟩, (Touch.alloc (fun _ => False) w _).below (Nat.le_refl _) (fun _ _ h => h)⟩
  all_goals
    clear h
    go_enter Try.func9, Try.ntmps9
    go_wp2
    go_ret2
    exact ⟨⟨_, rfl⟩, (Touch.alloc (fun _ => False) w _).below (Nat.le_refl _) (fun _ _ h => h)⟩

set_option maxRecDepth 100000 in
theorem rnew_world (w : World) (s : Nat) (top : Int) (hm : madeCells #[Value.int .i64 0] s = (ints (List.replicate s 0)).toArray) : Ref ((w.alloc (Obj.cells (madeCells #[Value.int IntKind.i64 0] s) 3)).alloc (Obj.cells #[Value.slice (some { block := w.heap.size, off := 0 }) s s, Value.int IntKind.i64 top] 38)) (w.heap.size + 1) w.heap.size (List.replicate s 0) top ∧
    Below w.heap.size w ((w.alloc (Obj.cells (madeCells #[Value.int IntKind.i64 0] s) 3)).alloc (Obj.cells #[Value.slice (some { block := w.heap.size, off := 0 }) s s, Value.int IntKind.i64 top] 38)) := by
  rw [hm]
  have hn := Blk.new w (ints (List.replicate s 0)) 3
  have T1 := Touch.alloc (fun _ => False) w (Obj.cells (ints (List.replicate s 0)).toArray 3)
  have hs : (w.alloc (Obj.cells (ints (List.replicate s 0)).toArray 3)).heap.size = w.heap.size + 1 := by simp
  generalize w.alloc (Obj.cells (ints (List.replicate s 0)).toArray 3) = w1 at *
  have hn2 := Blk.new w1 [Value.slice (some { block := w.heap.size, off := 0 }) s s, Value.int IntKind.i64 top] 38
  have T2 := Touch.alloc (fun _ => False) w1 (Obj.cells #[Value.slice (some { block := w.heap.size, off := 0 }) s s, Value.int IntKind.i64 top] 38)
  rw [hs] at hn2
  refine ⟨⟨?_, hn.keep T2 (fun x => x), by omega⟩, (T1.trans T2 (fun _ _ x => x)).below (Nat.le_refl _) (fun _ _ x => x)⟩
  rw [List.length_replicate]; exact hn2

set_option maxRecDepth 100000 in
theorem rnew_yes (size top : Int) (w : World) (h1 : 1 ≤ size) (h2 : size ≤ 64) (h3 : 1 ≤ top) :
    Calls Try.prog 9 #[.int .i64 size, .int .i64 top] w fun e w' => e = .returned (.tuple #[.pointer (some ⟨w.heap.size + 1, 0, none⟩), .int .i64 0]) ∧ Ref w' (w.heap.size + 1) w.heap.size (List.replicate size.toNat 0) top ∧ Below w.heap.size w w' := by
  obtain ⟨s, rfl⟩ := Int.eq_ofNat_of_zero_le (show 0 ≤ size by omega)
  have hmk := run_make_row' (P := Try.prog) 34 3 (.int .i64 0) 8 Try.underlying34 info3 rfl .i64 .i64 s (by omega) (by omega) w
  rw [Int.toNat_natCast]
  go_enter Try.func9, Try.ntmps9
  go_wp2
  go_ret2
  exact ⟨rfl, rnew_world w s top (made_ints s)⟩
end Go.Proofs.Ytofjmlnoljigfaa
