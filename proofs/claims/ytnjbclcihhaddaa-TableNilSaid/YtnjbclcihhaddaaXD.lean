/- A pair as a number: what mix and Hash answer. Conditions: texts are not long. -/
import Derived.Test.YtnjbclcihhaddaaXB
import Derived.Test.YtnjbclcihhaddaaXC
set_option linter.unusedVariables false
set_option linter.unusedSimpArgs false
namespace Go.Proofs.Ytnjbclcihhaddaa
open Go.RowKit Go.Op
theorem u32_range (x : Int) : 0 ≤ IntKind.u32.wrap x ∧ IntKind.u32.wrap x < 4294967296 := by
  have : IntKind.u32.wrap x = x % 4294967296 := rfl
  omega
theorem u32_small {x : Int} (h : 0 ≤ x) (h2 : x < 4294967296) : IntKind.u32.wrap x = x := by
  have : IntKind.u32.wrap x = x % 4294967296 := rfl
  omega
def mixS (h : Int) (l : List UInt8) : Int := l.foldl (fun h c => IntKind.u32.wrap (bits .xor .u32 h ((c.toNat : Nat) : Int) * 16777619)) h
def mixAll (l : List ByteArray) : Int := l.foldl (fun h s => mixS h s.data.toList) 2166136261
theorem mixS_snoc (h : Int) (s : ByteArray) (j : Nat) (hj : j < s.size) : mixS h (s.data.toList.take (j + 1)) = IntKind.u32.wrap (bits .xor .u32 (mixS h (s.data.toList.take j)) (((s.data.toList.getD j 0).toNat : Nat) : Int) * 16777619) := by
  unfold mixS
  have hl : j < s.data.toList.length := by simpa using hj
  rw [List.take_succ_eq_append_getElem hl, List.foldl_append, List.getD_eq_getElem?_getD, List.getElem?_eq_getElem hl]
  rfl
theorem mixAll_snoc (l : List ByteArray) (k : Nat) (s : ByteArray) (h : l[k]? = some s) : mixAll (l.take (k + 1)) = mixS (mixAll (l.take k)) s.data.toList := by
  obtain ⟨hk, rfl⟩ := List.getElem?_eq_some_iff.1 h
  unfold mixAll
  rw [List.take_succ_eq_append_getElem hk, List.foldl_append]
  rfl
theorem mixS_range (l : List UInt8) : ∀ h : Int, 0 ≤ h ∧ h < 4294967296 → 0 ≤ mixS h l ∧ mixS h l < 4294967296 := by
  induction l with
  | nil => intro h hh; exact hh
  | cons c l ih => intro h hh; exact ih _ (u32_range _)
theorem mixAll_range (l : List ByteArray) : 0 ≤ mixAll l ∧ mixAll l < 4294967296 := by
  have : ∀ (l : List ByteArray) (h : Int), 0 ≤ h ∧ h < 4294967296 → 0 ≤ l.foldl (fun h s => mixS h s.data.toList) h ∧ l.foldl (fun h s => mixS h s.data.toList) h < 4294967296 := by
    intro l
    induction l with
    | nil => intro h hh; exact hh
    | cons s l ih => intro h hh; exact ih _ (mixS_range _ h hh)
  exact this l _ (by omega)
set_option maxRecDepth 100000 in
set_option maxHeartbeats 4000000 in
theorem mix_any (g : Nat) (l : List ByteArray) (w : World) (hBg : Blk w g (l.map .string) 9) (hl : l.length ≤ 8) (hsz : ∀ s ∈ l, s.size ≤ 1000) : Calls Try.prog 93 #[.slice (some ⟨g, 0, none⟩) l.length l.length] w fun e w' => e = .returned (.int .u32 (mixAll l)) ∧ Below w.heap.size w w' := by
  have hT0 := Touch.refl (fun _ => False) w
  go_enter Try.func93, Try.ntmps93
  refine wp_seq_k fun K1 hK1 => ?_
  refine wl_region ?_
  refine dw_val (by kernel_rfl) (.int .u32 0) (by kernel_rfl) ?_
  simp only [Act.put, List.setIfInBounds_toArray, List.set_cons_zero, List.set_cons_succ]
  refine wl_nil ?_
  refine hK1 _ _ ?_
  refine wp_seq_k fun K2 hK2 => ?_
  refine wl_region ?_
  refine dw_val (by kernel_rfl) (.int .u32 2166136261) (by kernel_rfl) ?_
  simp only [Act.put, List.setIfInBounds_toArray, List.set_cons_zero, List.set_cons_succ]
  refine wl_nil ?_
  refine hK2 _ _ ?_
  refine wp_seq_k fun K3 hK3 => ?_
  refine wp_seq_k fun K4 hK4 => ?_
  refine wl_region ?_
  refine dw_val (by kernel_rfl) (.slice (some ⟨g, 0, none⟩) l.length l.length) (by kernel_rfl) ?_
  simp only [Act.put, List.setIfInBounds_toArray, List.set_cons_zero, List.set_cons_succ]
  refine dw_val (by kernel_rfl) (.int .i64 (l.length : Int)) (by kernel_rfl) ?_
  simp only [Act.put, List.setIfInBounds_toArray, List.set_cons_zero, List.set_cons_succ]
  refine dw_val (by kernel_rfl) (.int .i64 0) (by kernel_rfl) ?_
  simp only [Act.put, List.setIfInBounds_toArray, List.set_cons_zero, List.set_cons_succ]
  refine wl_nil ?_
  refine hK4 _ _ ?_
  refine wp_block ?_
  refine wp_loop (fun (aL : Act) (wL : World) => ∃ (k : Nat), ∃ (h : Int), ∃ (u10_0 u11_0 u12_0 u5_0 u13_0 u14_0 u15_0 u16_0 u17_0 u6_0 u18_0 u19_0 u20_0 u21_0 u22_0 u23_0 u24_0 u25_0 u26_0 : Value), (k ≤ l.length) ∧ (h = mixAll (l.take k)) ∧ (Blk wL g (l.map .string) 9) ∧ Touch (fun _ => False) w wL ∧ aL = ⟨#[(.slice (some ⟨g, 0, none⟩) l.length l.length : Value), undef, .int .u32 0, .int .u32 h, undef, u5_0, u6_0, .slice (some ⟨g, 0, none⟩) l.length l.length, .int .i64 (l.length : Int), .int .i64 (k : Int), u10_0, u11_0, u12_0, u13_0, u14_0, u15_0, u16_0, u17_0, u18_0, u19_0, u20_0, u21_0, u22_0, u23_0, u24_0, u25_0, u26_0, undef], []⟩) (fun (aL : Act) (wL : World) => l.length - (intOf (aL.tmps.getD 9 undef)).toNat) ?_ ?_
  · exact ⟨0, 2166136261, undef, undef, undef, undef, undef, undef, undef, undef, undef, undef, undef, undef, undef, undef, undef, undef, undef, undef, undef, (Nat.zero_le _), rfl, hBg, hT0, rfl⟩
  · intro aL w1 hI
    clear hT0 hBg
    obtain ⟨k, h, u10_0, u11_0, u12_0, u5_0, u13_0, u14_0, u15_0, u16_0, u17_0, u6_0, u18_0, u19_0, u20_0, u21_0, u22_0, u23_0, u24_0, u25_0, u26_0, hk, hh, hBg, hT0, rfl⟩ := hI
    by_cases hlt : k < l.length
    · obtain ⟨s, hs⟩ : ∃ s, l[k]? = some s := ⟨_, List.getElem?_eq_getElem hlt⟩
      have hss := hsz s (List.mem_of_getElem? hs)
      refine wp_seq_k fun K5 hK5 => ?_
      refine wl_region ?_
      refine dw_bool (by kernel_rfl) (decide ((k : Int) < (l.length : Int))) (by kernel_rfl) (fun hc => ?_) (fun hc => absurd hc (by simp; omega))
      simp only [Act.put, List.setIfInBounds_toArray, List.set_cons_zero, List.set_cons_succ]
      refine wl_nil ?_
      refine hK5 _ _ ?_
      refine wp_seq_k fun K6 hK6 => ?_
      refine wp_cond_true rfl ?_
      refine wp_skip ?_
      refine hK6 _ _ ?_
      refine wp_seq_k fun K7 hK7 => ?_
      refine wp_block ?_
      refine wp_seq_k fun K8 hK8 => ?_
      refine wl_region ?_
      refine dw_val (by kernel_rfl) (.pointer (some ⟨g, k, none⟩)) (ev_index 152 9 (.tmp 7) (.tmp 9) rfl g 0 l.length l.length k 1 .i64 rfl rfl hlt Try.underlying152 (by kernel_rfl) (k) (by omega)) ?_
      simp only [Act.put, List.setIfInBounds_toArray, List.set_cons_zero, List.set_cons_succ]
      refine dw_cellAt (by kernel_rfl) 9 (.tmp 11) rfl g k rfl (.string s) ((hBg.cell k).trans (by simp [hs])) _ Try.underlying9 rfl ?_
      simp only [Act.put, List.setIfInBounds_toArray, List.set_cons_zero, List.set_cons_succ]
      refine dw_val (by kernel_rfl) (.string s) (by kernel_rfl) ?_
      simp only [Act.put, List.setIfInBounds_toArray, List.set_cons_zero, List.set_cons_succ]
      refine wl_nil ?_
      refine hK8 _ _ ?_
      refine wp_seq_k fun K9 hK9 => ?_
      refine wl_region ?_
      refine dw_val (by kernel_rfl) (.string s) (by kernel_rfl) ?_
      simp only [Act.put, List.setIfInBounds_toArray, List.set_cons_zero, List.set_cons_succ]
      refine dw_val (by kernel_rfl) (.int .i64 (s.size : Int)) (by kernel_rfl) ?_
      simp only [Act.put, List.setIfInBounds_toArray, List.set_cons_zero, List.set_cons_succ]
      refine dw_val (by kernel_rfl) (.int .i64 0) (by kernel_rfl) ?_
      simp only [Act.put, List.setIfInBounds_toArray, List.set_cons_zero, List.set_cons_succ]
      refine wl_nil ?_
      refine hK9 _ _ ?_
      refine wp_block ?_
      refine wp_loop (fun (aL : Act) (wL : World) => ∃ (j : Nat), ∃ (h2 : Int), ∃ (u16_1 u17_1 u6_1 u18_1 u19_1 u20_1 u21_1 u22_1 u23_1 u24_1 u25_1 : Value), (j ≤ s.size) ∧ (h2 = mixS h (s.data.toList.take j)) ∧ (Blk wL g (l.map .string) 9) ∧ Touch (fun _ => False) w wL ∧ aL = ⟨#[(.slice (some ⟨g, 0, none⟩) l.length l.length : Value), undef, .int .u32 0, .int .u32 h2, undef, .string s, u6_1, .slice (some ⟨g, 0, none⟩) l.length l.length, .int .i64 (l.length : Int), .int .i64 (k : Int), .bool true, .pointer (some ⟨g, k, none⟩), .string s, .string s, .int .i64 (s.size : Int), .int .i64 (j : Int), u16_1, u17_1, u18_1, u19_1, u20_1, u21_1, u22_1, u23_1, u24_1, u25_1, u26_0, undef], []⟩) (fun (aL : Act) (wL : World) => s.size - (intOf (aL.tmps.getD 15 undef)).toNat) ?_ ?_
      · exact ⟨0, h, u16_0, u17_0, u6_0, u18_0, u19_0, u20_0, u21_0, u22_0, u23_0, u24_0, u25_0, (Nat.zero_le _), rfl, hBg, hT0, rfl⟩
      · intro aL w2 hI
        clear hT0 hBg
        obtain ⟨j, h2, u16_1, u17_1, u6_1, u18_1, u19_1, u20_1, u21_1, u22_1, u23_1, u24_1, u25_1, hj, hh2, hBg, hT0, rfl⟩ := hI
        by_cases hjl : j < s.size
        · have hcr : (s.data.toList.getD j 0).toNat < 256 := UInt8.toNat_lt _
          refine wp_seq_k fun K10 hK10 => ?_
          refine wl_region ?_
          refine dw_bool (by kernel_rfl) (decide ((j : Int) < (s.size : Int))) (by kernel_rfl) (fun hc => ?_) (fun hc => absurd hc (by simp; omega))
          simp only [Act.put, List.setIfInBounds_toArray, List.set_cons_zero, List.set_cons_succ]
          refine wl_nil ?_
          refine hK10 _ _ ?_
          refine wp_seq_k fun K11 hK11 => ?_
          refine wp_cond_true rfl ?_
          refine wp_skip ?_
          refine hK11 _ _ ?_
          refine wp_seq_k fun K12 hK12 => ?_
          refine wp_block ?_
          refine wp_seq_k fun K13 hK13 => ?_
          refine wl_region ?_
          refine dw_val (by kernel_rfl) (.int .i64 (j : Int)) (by kernel_rfl) ?_
          simp only [Act.put, List.setIfInBounds_toArray, List.set_cons_zero, List.set_cons_succ]
          refine dw_val (by kernel_rfl) (.int .i64 (j : Int)) (by kernel_rfl) ?_
          simp only [Act.put, List.setIfInBounds_toArray, List.set_cons_zero, List.set_cons_succ]
          refine wl_nil ?_
          refine hK13 _ _ ?_
          refine wl_region ?_
          refine dw_val (by kernel_rfl) (.int .u32 h2) (by kernel_rfl) ?_
          simp only [Act.put, List.setIfInBounds_toArray, List.set_cons_zero, List.set_cons_succ]
          refine dw_val (by kernel_rfl) (.string s) (by kernel_rfl) ?_
          simp only [Act.put, List.setIfInBounds_toArray, List.set_cons_zero, List.set_cons_succ]
          refine dw_val (by kernel_rfl) (.int .i64 (j : Int)) (by kernel_rfl) ?_
          simp only [Act.put, List.setIfInBounds_toArray, List.set_cons_zero, List.set_cons_succ]
          refine dw_val (by kernel_rfl) (.int .u8 (((s.data.toList.getD j 0).toNat : Nat) : Int)) (ev_str (.tmp 19) (.tmp 20) s j rfl rfl rfl hjl) ?_
          simp only [Act.put, List.setIfInBounds_toArray, List.set_cons_zero, List.set_cons_succ]
          refine dw_val2 (by kernel_rfl) (.int .u32 (IntKind.u32.wrap (((s.data.toList.getD j 0).toNat : Nat) : Int))) (.int .u32 (((s.data.toList.getD j 0).toNat : Nat) : Int)) (by kernel_rfl) (by rw [show IntKind.u32.wrap (((s.data.toList.getD j 0).toNat : Nat) : Int) = (((s.data.toList.getD j 0).toNat : Nat) : Int) from u32_small (by omega) (by omega)]) ?_
          simp only [Act.put, List.setIfInBounds_toArray, List.set_cons_zero, List.set_cons_succ]
          refine dw_val (by kernel_rfl) (.int .u32 (bits .xor .u32 h2 (((s.data.toList.getD j 0).toNat : Nat) : Int))) (by kernel_rfl) ?_
          simp only [Act.put, List.setIfInBounds_toArray, List.set_cons_zero, List.set_cons_succ]
          refine dw_val (by kernel_rfl) (.int .u32 (IntKind.u32.wrap (bits .xor .u32 h2 (((s.data.toList.getD j 0).toNat : Nat) : Int) * 16777619))) (by kernel_rfl) ?_
          simp only [Act.put, List.setIfInBounds_toArray, List.set_cons_zero, List.set_cons_succ]
          refine dw_val (by kernel_rfl) (.int .u32 (IntKind.u32.wrap (bits .xor .u32 h2 (((s.data.toList.getD j 0).toNat : Nat) : Int) * 16777619))) (by kernel_rfl) ?_
          simp only [Act.put, List.setIfInBounds_toArray, List.set_cons_zero, List.set_cons_succ]
          refine wl_nil ?_
          refine hK12 _ _ ?_
          refine wl_region ?_
          refine dw_val2 (by kernel_rfl) (.int .i64 (IntKind.i64.wrap ((j : Int) + 1))) (.int .i64 ((j + 1 : Nat) : Int)) (by kernel_rfl) (by rw [show IntKind.i64.wrap ((j : Int) + 1) = ((j + 1 : Nat) : Int) from by rw [IntWalk.i64_in _ (by omega)]; rfl]) ?_
          simp only [Act.put, List.setIfInBounds_toArray, List.set_cons_zero, List.set_cons_succ]
          refine dw_val (by kernel_rfl) (.int .i64 ((j + 1 : Nat) : Int)) (by kernel_rfl) ?_
          simp only [Act.put, List.setIfInBounds_toArray, List.set_cons_zero, List.set_cons_succ]
          refine wl_nil ?_
          refine then_normal ?_
          refine ⟨⟨(j + 1), (IntKind.u32.wrap (bits .xor .u32 h2 (((s.data.toList.getD j 0).toNat : Nat) : Int) * 16777619)), (.bool true), (.int .i64 (j : Int)), (.int .i64 (j : Int)), (.int .u32 h2), (.string s), (.int .i64 (j : Int)), (.int .u8 (((s.data.toList.getD j 0).toNat : Nat) : Int)), (.int .u32 (((s.data.toList.getD j 0).toNat : Nat) : Int)), (.int .u32 (bits .xor .u32 h2 (((s.data.toList.getD j 0).toNat : Nat) : Int))), (.int .u32 (IntKind.u32.wrap (bits .xor .u32 h2 (((s.data.toList.getD j 0).toNat : Nat) : Int) * 16777619))), (.int .i64 ((j + 1 : Nat) : Int)), (by omega), (by rw [mixS_snoc _ _ _ hjl, ← hh2]), hBg, hT0, rfl⟩, ?_⟩
          simp [intOf]; omega
        · have hge : ¬ j < s.size := hjl
          refine wp_seq_k fun K14 hK14 => ?_
          refine wl_region ?_
          refine dw_bool (by kernel_rfl) (decide ((j : Int) < (s.size : Int))) (by kernel_rfl) (fun hc => absurd hc (by simp; omega)) (fun hc => ?_)
          simp only [Act.put, List.setIfInBounds_toArray, List.set_cons_zero, List.set_cons_succ]
          refine wl_nil ?_
          refine hK14 _ _ ?_
          refine wp_seq_k fun K15 hK15 => ?_
          refine wp_cond_false rfl ?_
          refine wp_exit ?_
          refine hK7 _ _ ?_
          refine wl_region ?_
          refine dw_val2 (by kernel_rfl) (.int .i64 (IntKind.i64.wrap ((k : Int) + 1))) (.int .i64 ((k + 1 : Nat) : Int)) (by kernel_rfl) (by rw [show IntKind.i64.wrap ((k : Int) + 1) = ((k + 1 : Nat) : Int) from by rw [IntWalk.i64_in _ (by omega)]; rfl]) ?_
          simp only [Act.put, List.setIfInBounds_toArray, List.set_cons_zero, List.set_cons_succ]
          refine dw_val (by kernel_rfl) (.int .i64 ((k + 1 : Nat) : Int)) (by kernel_rfl) ?_
          simp only [Act.put, List.setIfInBounds_toArray, List.set_cons_zero, List.set_cons_succ]
          refine wl_nil ?_
          refine then_normal ?_
          have hjge : s.size ≤ j := by omega
          refine ⟨⟨(k + 1), h2, (.bool true), (.pointer (some ⟨g, k, none⟩)), (.string s), (.string s), (.string s), (.int .i64 (s.size : Int)), (.int .i64 (j : Int)), (.bool false), u17_1, u6_1, u18_1, u19_1, u20_1, u21_1, u22_1, u23_1, u24_1, u25_1, (.int .i64 ((k + 1 : Nat) : Int)), (by omega), (by rw [mixAll_snoc l k s hs, ← hh, hh2, List.take_of_length_le (by simpa using hjge)]), hBg, hT0, rfl⟩, ?_⟩
          simp [intOf]; omega
    · have hge : ¬ k < l.length := hlt
      refine wp_seq_k fun K16 hK16 => ?_
      refine wl_region ?_
      refine dw_bool (by kernel_rfl) (decide ((k : Int) < (l.length : Int))) (by kernel_rfl) (fun hc => absurd hc (by simp; omega)) (fun hc => ?_)
      simp only [Act.put, List.setIfInBounds_toArray, List.set_cons_zero, List.set_cons_succ]
      refine wl_nil ?_
      refine hK16 _ _ ?_
      refine wp_seq_k fun K17 hK17 => ?_
      refine wp_cond_false rfl ?_
      refine wp_exit ?_
      refine hK3 _ _ ?_
      refine wp_seq_k fun K18 hK18 => ?_
      refine wl_region ?_
      refine dw_val (by kernel_rfl) (.int .u32 h) (by kernel_rfl) ?_
      simp only [Act.put, List.setIfInBounds_toArray, List.set_cons_zero, List.set_cons_succ]
      refine dw_val (by kernel_rfl) (.int .u32 h) (by kernel_rfl) ?_
      simp only [Act.put, List.setIfInBounds_toArray, List.set_cons_zero, List.set_cons_succ]
      refine wl_nil ?_
      refine hK18 _ _ ?_
      refine wp_ret ?_
      repeat (first | with_reducible refine ret_then ?_ | with_reducible refine ret_block ?_)
      refine bodyPost_ret (v := .int .u32 h) (by kernel_rfl) rfl ?_
      refine ⟨ret_int ?_, hT0.toBelow⟩
      rw [hh, List.take_of_length_le (by omega)]
def portN (p : Int) : Nat := (IntKind.u64.wrap p).toNat
theorem port_is (p : Int) : IntKind.u64.wrap p = ((portN p : Nat) : Int) := by
  have : IntKind.u64.wrap p = p % 18446744073709551616 := rfl
  unfold portN; omega
theorem port_lt (p : Int) : portN p < 18446744073709551616 := by
  have : IntKind.u64.wrap p = p % 18446744073709551616 := rfl
  unfold portN; omega
def partsP (p : Pr) : List ByteArray := [p.lb, ⟨(be (portN p.lp) 2).toArray⟩, p.hb, ⟨(be (portN p.hp) 2).toArray⟩]
def hashI (p : Pr) : Int := mixAll (partsP p)
def hashF (n : Nat) (p : Pr) : Nat := (hashI p).toNat % n
theorem hashF_lt {n : Nat} (h : 0 < n) (p : Pr) : hashF n p < n := Nat.mod_lt _ h
theorem hash_range (p : Pr) : 0 ≤ hashI p ∧ hashI p < 4294967296 := mixAll_range _
theorem parts_small {p : Pr} (h1 : p.lb.size ≤ 100) (h2 : p.hb.size ≤ 100) : ∀ s ∈ partsP p, s.size ≤ 1000 := by
  intro s hs
  unfold partsP at hs
  simp only [List.mem_cons, List.not_mem_nil, or_false] at hs
  have hb : ∀ n, (ByteArray.mk (be n 2).toArray).size = 2 := fun n => by show (be n 2).toArray.size = 2; simp [be_length]
  rcases hs with rfl | rfl | rfl | rfl
  · omega
  · rw [hb]; omega
  · omega
  · rw [hb]; omega
theorem ev_rem_n {o : Oper} {c : Act} {w : World} (x y : Operand) {p : Pr} {n : Nat} (hr : 0 ≤ hashI p ∧ hashI p < 4294967296) (hn : 1 ≤ n) (ho : o.op = .binOp .rem 3 x y 3) (hx : c.eval x = .int .i64 (hashI p)) (hy : c.eval y = .int .i64 (n : Int)) :
    (execOp c.eval o).run Try.prog w = .ok (.value (.int .i64 ((hashF n p : Nat) : Int))) w := by
  obtain ⟨m, hm⟩ := Int.eq_ofNat_of_zero_le hr.1
  have e : Int.tmod (hashI p) n = ((hashF n p : Nat) : Int) := by unfold hashF; rw [hm]; rfl
  have hn0 : ¬ ((n : Int) = 0) := by omega
  unfold execOp
  simp only [ho, hx, hy]
  rw [← e]
  have hn1 : ¬ n = 0 := by omega
  simp [eqGuard, binOp, intDiv, hn1]
noncomputable def thR : Array Oper := ((Try.f90.body.bind (findRegion 3)).getD #[])
def thS (b : Nat) (w0 : World) (p : Pr) (w : World) : Prop := (Blk w b [(.string p.lb : Value), .int .i64 p.lp, .string p.hb, .int .i64 p.hp] 61) ∧ (Touch (fun _ => False) w0 w)
theorem thS_keep (b : Nat) (w0 : World) (p : Pr) : ∀ w w', thS b w0 p w → Touch (fun _ => False) w w' → thS b w0 p w' := fun w w' hh t => by
  obtain ⟨h0, h1⟩ := hh
  exact ⟨h0.keep t (fun h => h), h1.trans t (fun _ _ h => h)⟩
def thA (b : Nat) (p : Pr) (t : Tmp) (v : Value) (w : World) : Prop :=
  match t with
  | 5 => v = .int .u32 (hashI p)
  | 8 => v = .pointer (some ⟨b, 0, none⟩)
  | 9 => v = .pointer (some ⟨b, 0, none⟩)
  | 10 => v = .pointer (some ⟨b, 0, none⟩)
  | 11 => v = .string p.lb
  | 12 => v = .pointer (some ⟨b, 0, none⟩)
  | 13 => v = .pointer (some ⟨b, 1, none⟩)
  | 14 => v = .int .i64 p.lp
  | 15 => v = .int .u64 ((portN p.lp : Nat) : Int)
  | 16 => v = .string ⟨(be (portN p.lp) 2).toArray⟩
  | 17 => v = .pointer (some ⟨b, 2, none⟩)
  | 18 => v = .pointer (some ⟨b, 2, none⟩)
  | 19 => v = .pointer (some ⟨b, 2, none⟩)
  | 20 => v = .string p.hb
  | 21 => v = .pointer (some ⟨b, 2, none⟩)
  | 22 => v = .pointer (some ⟨b, 3, none⟩)
  | 23 => v = .int .i64 p.hp
  | 24 => v = .int .u64 ((portN p.hp : Nat) : Int)
  | 25 => v = .string ⟨(be (portN p.hp) 2).toArray⟩
  | 26 => ∃ g, v = .slice (some ⟨g, 0, none⟩) 4 4 ∧ Blk w g ((partsP p).map .string) 9
  | 27 => v = .int .u32 (hashI p)
  | _ => True
theorem thA_keep (b : Nat) (p : Pr) : ∀ t v w w', Touch (fun _ => False) w w' → thA b p t v w → thA b p t v w' := by
  intro t v w w' ht h
  unfold thA at *
  split at h
  · exact h
  · exact h
  · exact h
  · exact h
  · exact h
  · exact h
  · exact h
  · exact h
  · exact h
  · exact h
  · exact h
  · exact h
  · exact h
  · exact h
  · exact h
  · exact h
  · exact h
  · exact h
  · exact h
  · obtain ⟨g, h1, h2⟩ := h; exact ⟨g, h1, h2.keep ht (fun h => h)⟩
  · exact h
  · trivial
set_option maxRecDepth 100000 in
theorem th_0 (b : Nat) (w0 : World) (p : Pr) (a0 : Act) (Q : Exit → Act → World → Prop) (hl : p.lb.size ≤ 100) (hh0 : p.hb.size ≤ 100) (k2 : a0.eval (.tmp 2) = .pointer (some ⟨b, 0, none⟩)) : StepOk (md := .any) Try.prog thR Q (thA b p) (Touch (fun _ => False)) (fun _ w => thS b w0 p w) a0 0 (thR.getD 0 default) := by
  refine step_of (.inl (by kernel_rfl)) (thS_keep b w0 p) (fun aF w hC hop => ?_)
  have h2 : aF.eval (.tmp 2) = _ := (hop.el 2 (by kernel_rfl)).trans k2
  exact tw_val (.pointer (some ⟨b, 0, none⟩)) (by unfold execOp; rw [show (thR.getD 0 default).op = .fieldAddr 61 (.tmp 2) 0 from by kernel_rfl]; simp only [h2]; kernel_rfl) (fun t ht => by have e : (thR.getD 0 default).dst = some 8 := (by kernel_rfl); rw [e] at ht; cases ht; exact rfl)
set_option maxRecDepth 100000 in
theorem th_1 (b : Nat) (w0 : World) (p : Pr) (a0 : Act) (Q : Exit → Act → World → Prop) (hl : p.lb.size ≤ 100) (hh0 : p.hb.size ≤ 100) (k2 : a0.eval (.tmp 2) = .pointer (some ⟨b, 0, none⟩)) : StepOk (md := .any) Try.prog thR Q (thA b p) (Touch (fun _ => False)) (fun _ w => thS b w0 p w) a0 1 (thR.getD 1 default) := by
  refine step_of (.inl (by kernel_rfl)) (thS_keep b w0 p) (fun aF w hC hop => ?_)
  have h8 : (thA b p) 8 (aF.eval (.tmp 8)) w := hop.rd 8 0 (by kernel_rfl)
  replace h8 : aF.eval (.tmp 8) = .pointer (some ⟨b, 0, none⟩) := h8
  exact tw_val (.pointer (some ⟨b, 0, none⟩)) (by unfold execOp; rw [show (thR.getD 1 default).op = .fieldAddr 59 (.tmp 8) 0 from by kernel_rfl]; simp only [h8]; kernel_rfl) (fun t ht => by have e : (thR.getD 1 default).dst = some 9 := (by kernel_rfl); rw [e] at ht; cases ht; exact rfl)
set_option maxRecDepth 100000 in
theorem th_2 (b : Nat) (w0 : World) (p : Pr) (a0 : Act) (Q : Exit → Act → World → Prop) (hl : p.lb.size ≤ 100) (hh0 : p.hb.size ≤ 100) (k2 : a0.eval (.tmp 2) = .pointer (some ⟨b, 0, none⟩)) : StepOk (md := .any) Try.prog thR Q (thA b p) (Touch (fun _ => False)) (fun _ w => thS b w0 p w) a0 2 (thR.getD 2 default) := by
  refine step_of (.inl (by kernel_rfl)) (thS_keep b w0 p) (fun aF w hC hop => ?_)
  have h9 : (thA b p) 9 (aF.eval (.tmp 9)) w := hop.rd 9 1 (by kernel_rfl)
  replace h9 : aF.eval (.tmp 9) = .pointer (some ⟨b, 0, none⟩) := h9
  exact tw_val (.pointer (some ⟨b, 0, none⟩)) (by unfold execOp; rw [show (thR.getD 2 default).op = .fieldAddr 57 (.tmp 9) 0 from by kernel_rfl]; simp only [h9]; kernel_rfl) (fun t ht => by have e : (thR.getD 2 default).dst = some 10 := (by kernel_rfl); rw [e] at ht; cases ht; exact rfl)
set_option maxRecDepth 100000 in
theorem th_3 (b : Nat) (w0 : World) (p : Pr) (a0 : Act) (Q : Exit → Act → World → Prop) (hl : p.lb.size ≤ 100) (hh0 : p.hb.size ≤ 100) (k2 : a0.eval (.tmp 2) = .pointer (some ⟨b, 0, none⟩)) : StepOk (md := .any) Try.prog thR Q (thA b p) (Touch (fun _ => False)) (fun _ w => thS b w0 p w) a0 3 (thR.getD 3 default) := by
  refine step_of (.inl (by kernel_rfl)) (thS_keep b w0 p) (fun aF w hC hop => ?_)
  have h10 : (thA b p) 10 (aF.eval (.tmp 10)) w := hop.rd 10 2 (by kernel_rfl)
  replace h10 : aF.eval (.tmp 10) = .pointer (some ⟨b, 0, none⟩) := h10
  exact tw_val (.string p.lb) (ev_cell 9 (.tmp 10) (by kernel_rfl) b 0 h10 _ ((hC.1.cell 0).trans rfl) _ Try.underlying9 rfl) (fun t ht => by have e : (thR.getD 3 default).dst = some 11 := (by kernel_rfl); rw [e] at ht; cases ht; exact rfl)
set_option maxRecDepth 100000 in
theorem th_4 (b : Nat) (w0 : World) (p : Pr) (a0 : Act) (Q : Exit → Act → World → Prop) (hl : p.lb.size ≤ 100) (hh0 : p.hb.size ≤ 100) (k2 : a0.eval (.tmp 2) = .pointer (some ⟨b, 0, none⟩)) : StepOk (md := .any) Try.prog thR Q (thA b p) (Touch (fun _ => False)) (fun _ w => thS b w0 p w) a0 4 (thR.getD 4 default) := by
  refine step_of (.inl (by kernel_rfl)) (thS_keep b w0 p) (fun aF w hC hop => ?_)
  have h2 : aF.eval (.tmp 2) = _ := (hop.el 2 (by kernel_rfl)).trans k2
  exact tw_val (.pointer (some ⟨b, 0, none⟩)) (by unfold execOp; rw [show (thR.getD 4 default).op = .fieldAddr 61 (.tmp 2) 0 from by kernel_rfl]; simp only [h2]; kernel_rfl) (fun t ht => by have e : (thR.getD 4 default).dst = some 12 := (by kernel_rfl); rw [e] at ht; cases ht; exact rfl)
set_option maxRecDepth 100000 in
theorem th_5 (b : Nat) (w0 : World) (p : Pr) (a0 : Act) (Q : Exit → Act → World → Prop) (hl : p.lb.size ≤ 100) (hh0 : p.hb.size ≤ 100) (k2 : a0.eval (.tmp 2) = .pointer (some ⟨b, 0, none⟩)) : StepOk (md := .any) Try.prog thR Q (thA b p) (Touch (fun _ => False)) (fun _ w => thS b w0 p w) a0 5 (thR.getD 5 default) := by
  refine step_of (.inl (by kernel_rfl)) (thS_keep b w0 p) (fun aF w hC hop => ?_)
  have h12 : (thA b p) 12 (aF.eval (.tmp 12)) w := hop.rd 12 4 (by kernel_rfl)
  replace h12 : aF.eval (.tmp 12) = .pointer (some ⟨b, 0, none⟩) := h12
  exact tw_val (.pointer (some ⟨b, 1, none⟩)) (by unfold execOp; rw [show (thR.getD 5 default).op = .fieldAddr 59 (.tmp 12) 1 from by kernel_rfl]; simp only [h12]; kernel_rfl) (fun t ht => by have e : (thR.getD 5 default).dst = some 13 := (by kernel_rfl); rw [e] at ht; cases ht; exact rfl)
set_option maxRecDepth 100000 in
theorem th_6 (b : Nat) (w0 : World) (p : Pr) (a0 : Act) (Q : Exit → Act → World → Prop) (hl : p.lb.size ≤ 100) (hh0 : p.hb.size ≤ 100) (k2 : a0.eval (.tmp 2) = .pointer (some ⟨b, 0, none⟩)) : StepOk (md := .any) Try.prog thR Q (thA b p) (Touch (fun _ => False)) (fun _ w => thS b w0 p w) a0 6 (thR.getD 6 default) := by
  refine step_of (.inl (by kernel_rfl)) (thS_keep b w0 p) (fun aF w hC hop => ?_)
  have h13 : (thA b p) 13 (aF.eval (.tmp 13)) w := hop.rd 13 5 (by kernel_rfl)
  replace h13 : aF.eval (.tmp 13) = .pointer (some ⟨b, 1, none⟩) := h13
  exact tw_val (.int .i64 p.lp) (ev_cell 3 (.tmp 13) (by kernel_rfl) b 1 h13 _ ((hC.1.cell 1).trans rfl) _ Try.underlying3 rfl) (fun t ht => by have e : (thR.getD 6 default).dst = some 14 := (by kernel_rfl); rw [e] at ht; cases ht; exact rfl)
set_option maxRecDepth 100000 in
theorem th_7 (b : Nat) (w0 : World) (p : Pr) (a0 : Act) (Q : Exit → Act → World → Prop) (hl : p.lb.size ≤ 100) (hh0 : p.hb.size ≤ 100) (k2 : a0.eval (.tmp 2) = .pointer (some ⟨b, 0, none⟩)) : StepOk (md := .any) Try.prog thR Q (thA b p) (Touch (fun _ => False)) (fun _ w => thS b w0 p w) a0 7 (thR.getD 7 default) := by
  refine step_of (.inl (by kernel_rfl)) (thS_keep b w0 p) (fun aF w hC hop => ?_)
  have h14 : (thA b p) 14 (aF.eval (.tmp 14)) w := hop.rd 14 6 (by kernel_rfl)
  replace h14 : aF.eval (.tmp 14) = .int .i64 p.lp := h14
  exact tw_val (.int .u64 ((portN p.lp : Nat) : Int)) (by unfold execOp; rw [show (thR.getD 7 default).op = .convert 3 151 (.tmp 14) from by kernel_rfl]; simp only [h14]; exact (show _ = Result.ok (Next.value (.int .u64 (IntKind.u64.wrap p.lp))) w from by kernel_rfl).trans (by rw [port_is])) (fun t ht => by have e : (thR.getD 7 default).dst = some 15 := (by kernel_rfl); rw [e] at ht; cases ht; exact rfl)
set_option maxRecDepth 100000 in
theorem th_8 (b : Nat) (w0 : World) (p : Pr) (a0 : Act) (Q : Exit → Act → World → Prop) (hl : p.lb.size ≤ 100) (hh0 : p.hb.size ≤ 100) (k2 : a0.eval (.tmp 2) = .pointer (some ⟨b, 0, none⟩)) : StepOk (md := .any) Try.prog thR Q (thA b p) (Touch (fun _ => False)) (fun _ w => thS b w0 p w) a0 8 (thR.getD 8 default) := by
  refine step_of (.inl (by kernel_rfl)) (thS_keep b w0 p) (fun aF w hC hop => ?_)
  have h15 : (thA b p) 15 (aF.eval (.tmp 15)) w := hop.rd 15 7 (by kernel_rfl)
  replace h15 : aF.eval (.tmp 15) = .int .u64 ((portN p.lp : Nat) : Int) := h15
  have hv : (#[(.tmp 15), (.const (.int .i64 2))] : Array Operand).map aF.eval = #[(.int .u64 ((portN p.lp : Nat) : Int) : Value), .int .i64 2] := by simp only [List.map_toArray, List.map_cons, List.map_nil, h15]; first | done | rfl
  exact tw_call 94 #[(.tmp 15), (.const (.int .i64 2))] #[151, 3] (by kernel_rfl) #[(.int .u64 ((portN p.lp : Nat) : Int) : Value), .int .i64 2] hv (fun w => by kernel_rfl) (Calls.mono (put_yes (portN p.lp) 2 w (port_lt _) (by omega) (by omega)) (fun e w' hh => ⟨_, hh.1, (fun t ht => by have e : (thR.getD 8 default).dst = some 16 := (by kernel_rfl); rw [e] at ht; cases ht; exact rfl), Touch.none hh.2⟩))
set_option maxRecDepth 100000 in
theorem th_9 (b : Nat) (w0 : World) (p : Pr) (a0 : Act) (Q : Exit → Act → World → Prop) (hl : p.lb.size ≤ 100) (hh0 : p.hb.size ≤ 100) (k2 : a0.eval (.tmp 2) = .pointer (some ⟨b, 0, none⟩)) : StepOk (md := .any) Try.prog thR Q (thA b p) (Touch (fun _ => False)) (fun _ w => thS b w0 p w) a0 9 (thR.getD 9 default) := by
  refine step_of (.inl (by kernel_rfl)) (thS_keep b w0 p) (fun aF w hC hop => ?_)
  have h2 : aF.eval (.tmp 2) = _ := (hop.el 2 (by kernel_rfl)).trans k2
  exact tw_val (.pointer (some ⟨b, 2, none⟩)) (by unfold execOp; rw [show (thR.getD 9 default).op = .fieldAddr 61 (.tmp 2) 1 from by kernel_rfl]; simp only [h2]; kernel_rfl) (fun t ht => by have e : (thR.getD 9 default).dst = some 17 := (by kernel_rfl); rw [e] at ht; cases ht; exact rfl)
set_option maxRecDepth 100000 in
theorem th_10 (b : Nat) (w0 : World) (p : Pr) (a0 : Act) (Q : Exit → Act → World → Prop) (hl : p.lb.size ≤ 100) (hh0 : p.hb.size ≤ 100) (k2 : a0.eval (.tmp 2) = .pointer (some ⟨b, 0, none⟩)) : StepOk (md := .any) Try.prog thR Q (thA b p) (Touch (fun _ => False)) (fun _ w => thS b w0 p w) a0 10 (thR.getD 10 default) := by
  refine step_of (.inl (by kernel_rfl)) (thS_keep b w0 p) (fun aF w hC hop => ?_)
  have h17 : (thA b p) 17 (aF.eval (.tmp 17)) w := hop.rd 17 9 (by kernel_rfl)
  replace h17 : aF.eval (.tmp 17) = .pointer (some ⟨b, 2, none⟩) := h17
  exact tw_val (.pointer (some ⟨b, 2, none⟩)) (by unfold execOp; rw [show (thR.getD 10 default).op = .fieldAddr 59 (.tmp 17) 0 from by kernel_rfl]; simp only [h17]; kernel_rfl) (fun t ht => by have e : (thR.getD 10 default).dst = some 18 := (by kernel_rfl); rw [e] at ht; cases ht; exact rfl)
set_option maxRecDepth 100000 in
theorem th_11 (b : Nat) (w0 : World) (p : Pr) (a0 : Act) (Q : Exit → Act → World → Prop) (hl : p.lb.size ≤ 100) (hh0 : p.hb.size ≤ 100) (k2 : a0.eval (.tmp 2) = .pointer (some ⟨b, 0, none⟩)) : StepOk (md := .any) Try.prog thR Q (thA b p) (Touch (fun _ => False)) (fun _ w => thS b w0 p w) a0 11 (thR.getD 11 default) := by
  refine step_of (.inl (by kernel_rfl)) (thS_keep b w0 p) (fun aF w hC hop => ?_)
  have h18 : (thA b p) 18 (aF.eval (.tmp 18)) w := hop.rd 18 10 (by kernel_rfl)
  replace h18 : aF.eval (.tmp 18) = .pointer (some ⟨b, 2, none⟩) := h18
  exact tw_val (.pointer (some ⟨b, 2, none⟩)) (by unfold execOp; rw [show (thR.getD 11 default).op = .fieldAddr 57 (.tmp 18) 0 from by kernel_rfl]; simp only [h18]; kernel_rfl) (fun t ht => by have e : (thR.getD 11 default).dst = some 19 := (by kernel_rfl); rw [e] at ht; cases ht; exact rfl)
set_option maxRecDepth 100000 in
theorem th_12 (b : Nat) (w0 : World) (p : Pr) (a0 : Act) (Q : Exit → Act → World → Prop) (hl : p.lb.size ≤ 100) (hh0 : p.hb.size ≤ 100) (k2 : a0.eval (.tmp 2) = .pointer (some ⟨b, 0, none⟩)) : StepOk (md := .any) Try.prog thR Q (thA b p) (Touch (fun _ => False)) (fun _ w => thS b w0 p w) a0 12 (thR.getD 12 default) := by
  refine step_of (.inl (by kernel_rfl)) (thS_keep b w0 p) (fun aF w hC hop => ?_)
  have h19 : (thA b p) 19 (aF.eval (.tmp 19)) w := hop.rd 19 11 (by kernel_rfl)
  replace h19 : aF.eval (.tmp 19) = .pointer (some ⟨b, 2, none⟩) := h19
  exact tw_val (.string p.hb) (ev_cell 9 (.tmp 19) (by kernel_rfl) b 2 h19 _ ((hC.1.cell 2).trans rfl) _ Try.underlying9 rfl) (fun t ht => by have e : (thR.getD 12 default).dst = some 20 := (by kernel_rfl); rw [e] at ht; cases ht; exact rfl)
set_option maxRecDepth 100000 in
theorem th_13 (b : Nat) (w0 : World) (p : Pr) (a0 : Act) (Q : Exit → Act → World → Prop) (hl : p.lb.size ≤ 100) (hh0 : p.hb.size ≤ 100) (k2 : a0.eval (.tmp 2) = .pointer (some ⟨b, 0, none⟩)) : StepOk (md := .any) Try.prog thR Q (thA b p) (Touch (fun _ => False)) (fun _ w => thS b w0 p w) a0 13 (thR.getD 13 default) := by
  refine step_of (.inl (by kernel_rfl)) (thS_keep b w0 p) (fun aF w hC hop => ?_)
  have h2 : aF.eval (.tmp 2) = _ := (hop.el 2 (by kernel_rfl)).trans k2
  exact tw_val (.pointer (some ⟨b, 2, none⟩)) (by unfold execOp; rw [show (thR.getD 13 default).op = .fieldAddr 61 (.tmp 2) 1 from by kernel_rfl]; simp only [h2]; kernel_rfl) (fun t ht => by have e : (thR.getD 13 default).dst = some 21 := (by kernel_rfl); rw [e] at ht; cases ht; exact rfl)
set_option maxRecDepth 100000 in
theorem th_14 (b : Nat) (w0 : World) (p : Pr) (a0 : Act) (Q : Exit → Act → World → Prop) (hl : p.lb.size ≤ 100) (hh0 : p.hb.size ≤ 100) (k2 : a0.eval (.tmp 2) = .pointer (some ⟨b, 0, none⟩)) : StepOk (md := .any) Try.prog thR Q (thA b p) (Touch (fun _ => False)) (fun _ w => thS b w0 p w) a0 14 (thR.getD 14 default) := by
  refine step_of (.inl (by kernel_rfl)) (thS_keep b w0 p) (fun aF w hC hop => ?_)
  have h21 : (thA b p) 21 (aF.eval (.tmp 21)) w := hop.rd 21 13 (by kernel_rfl)
  replace h21 : aF.eval (.tmp 21) = .pointer (some ⟨b, 2, none⟩) := h21
  exact tw_val (.pointer (some ⟨b, 3, none⟩)) (by unfold execOp; rw [show (thR.getD 14 default).op = .fieldAddr 59 (.tmp 21) 1 from by kernel_rfl]; simp only [h21]; kernel_rfl) (fun t ht => by have e : (thR.getD 14 default).dst = some 22 := (by kernel_rfl); rw [e] at ht; cases ht; exact rfl)
set_option maxRecDepth 100000 in
theorem th_15 (b : Nat) (w0 : World) (p : Pr) (a0 : Act) (Q : Exit → Act → World → Prop) (hl : p.lb.size ≤ 100) (hh0 : p.hb.size ≤ 100) (k2 : a0.eval (.tmp 2) = .pointer (some ⟨b, 0, none⟩)) : StepOk (md := .any) Try.prog thR Q (thA b p) (Touch (fun _ => False)) (fun _ w => thS b w0 p w) a0 15 (thR.getD 15 default) := by
  refine step_of (.inl (by kernel_rfl)) (thS_keep b w0 p) (fun aF w hC hop => ?_)
  have h22 : (thA b p) 22 (aF.eval (.tmp 22)) w := hop.rd 22 14 (by kernel_rfl)
  replace h22 : aF.eval (.tmp 22) = .pointer (some ⟨b, 3, none⟩) := h22
  exact tw_val (.int .i64 p.hp) (ev_cell 3 (.tmp 22) (by kernel_rfl) b 3 h22 _ ((hC.1.cell 3).trans rfl) _ Try.underlying3 rfl) (fun t ht => by have e : (thR.getD 15 default).dst = some 23 := (by kernel_rfl); rw [e] at ht; cases ht; exact rfl)
set_option maxRecDepth 100000 in
theorem th_16 (b : Nat) (w0 : World) (p : Pr) (a0 : Act) (Q : Exit → Act → World → Prop) (hl : p.lb.size ≤ 100) (hh0 : p.hb.size ≤ 100) (k2 : a0.eval (.tmp 2) = .pointer (some ⟨b, 0, none⟩)) : StepOk (md := .any) Try.prog thR Q (thA b p) (Touch (fun _ => False)) (fun _ w => thS b w0 p w) a0 16 (thR.getD 16 default) := by
  refine step_of (.inl (by kernel_rfl)) (thS_keep b w0 p) (fun aF w hC hop => ?_)
  have h23 : (thA b p) 23 (aF.eval (.tmp 23)) w := hop.rd 23 15 (by kernel_rfl)
  replace h23 : aF.eval (.tmp 23) = .int .i64 p.hp := h23
  exact tw_val (.int .u64 ((portN p.hp : Nat) : Int)) (by unfold execOp; rw [show (thR.getD 16 default).op = .convert 3 151 (.tmp 23) from by kernel_rfl]; simp only [h23]; exact (show _ = Result.ok (Next.value (.int .u64 (IntKind.u64.wrap p.hp))) w from by kernel_rfl).trans (by rw [port_is])) (fun t ht => by have e : (thR.getD 16 default).dst = some 24 := (by kernel_rfl); rw [e] at ht; cases ht; exact rfl)
set_option maxRecDepth 100000 in
theorem th_17 (b : Nat) (w0 : World) (p : Pr) (a0 : Act) (Q : Exit → Act → World → Prop) (hl : p.lb.size ≤ 100) (hh0 : p.hb.size ≤ 100) (k2 : a0.eval (.tmp 2) = .pointer (some ⟨b, 0, none⟩)) : StepOk (md := .any) Try.prog thR Q (thA b p) (Touch (fun _ => False)) (fun _ w => thS b w0 p w) a0 17 (thR.getD 17 default) := by
  refine step_of (.inl (by kernel_rfl)) (thS_keep b w0 p) (fun aF w hC hop => ?_)
  have h24 : (thA b p) 24 (aF.eval (.tmp 24)) w := hop.rd 24 16 (by kernel_rfl)
  replace h24 : aF.eval (.tmp 24) = .int .u64 ((portN p.hp : Nat) : Int) := h24
  have hv : (#[(.tmp 24), (.const (.int .i64 2))] : Array Operand).map aF.eval = #[(.int .u64 ((portN p.hp : Nat) : Int) : Value), .int .i64 2] := by simp only [List.map_toArray, List.map_cons, List.map_nil, h24]; first | done | rfl
  exact tw_call 94 #[(.tmp 24), (.const (.int .i64 2))] #[151, 3] (by kernel_rfl) #[(.int .u64 ((portN p.hp : Nat) : Int) : Value), .int .i64 2] hv (fun w => by kernel_rfl) (Calls.mono (put_yes (portN p.hp) 2 w (port_lt _) (by omega) (by omega)) (fun e w' hh => ⟨_, hh.1, (fun t ht => by have e : (thR.getD 17 default).dst = some 25 := (by kernel_rfl); rw [e] at ht; cases ht; exact rfl), Touch.none hh.2⟩))
set_option maxRecDepth 100000 in
theorem th_18 (b : Nat) (w0 : World) (p : Pr) (a0 : Act) (Q : Exit → Act → World → Prop) (hl : p.lb.size ≤ 100) (hh0 : p.hb.size ≤ 100) (k2 : a0.eval (.tmp 2) = .pointer (some ⟨b, 0, none⟩)) : StepOk (md := .any) Try.prog thR Q (thA b p) (Touch (fun _ => False)) (fun _ w => thS b w0 p w) a0 18 (thR.getD 18 default) := by
  refine step_of (.inl (by kernel_rfl)) (thS_keep b w0 p) (fun aF w hC hop => ?_)
  have h11 : (thA b p) 11 (aF.eval (.tmp 11)) w := hop.rd 11 3 (by kernel_rfl)
  replace h11 : aF.eval (.tmp 11) = .string p.lb := h11
  have h16 : (thA b p) 16 (aF.eval (.tmp 16)) w := hop.rd 16 8 (by kernel_rfl)
  replace h16 : aF.eval (.tmp 16) = .string ⟨(be (portN p.lp) 2).toArray⟩ := h16
  have h20 : (thA b p) 20 (aF.eval (.tmp 20)) w := hop.rd 20 12 (by kernel_rfl)
  replace h20 : aF.eval (.tmp 20) = .string p.hb := h20
  have h25 : (thA b p) 25 (aF.eval (.tmp 25)) w := hop.rd 25 17 (by kernel_rfl)
  replace h25 : aF.eval (.tmp 25) = .string ⟨(be (portN p.hp) 2).toArray⟩ := h25
  have hv : (#[(0, (.tmp 11)), (1, (.tmp 16)), (2, (.tmp 20)), (3, (.tmp 25))] : Array (Nat × Operand)).map (fun (i, x) => (i, aF.eval x)) = #[(0, (.string p.lb : Value)), (1, (.string ⟨(be (portN p.lp) 2).toArray⟩ : Value)), (2, (.string p.hb : Value)), (3, (.string ⟨(be (portN p.hp) 2).toArray⟩ : Value))] := by simp only [List.map_toArray, List.map_cons, List.map_nil, h11, h16, h20, h25]; first | done | rfl
  obtain ⟨inf, hinf, hz0, hz1⟩ : ∃ inf, Try.prog.info? 9 = some inf ∧ inf.zero = some (.string ⟨#[]⟩) ∧ inf.size = 1 := ⟨_, rfl, rfl, rfl⟩
  exact tw_slice 152 9 4 #[(0, (.tmp 11)), (1, (.tmp 16)), (2, (.tmp 20)), (3, (.tmp 25))] (by kernel_rfl) _ hv #[(.string p.lb : Value), .string ⟨(be (portN p.lp) 2).toArray⟩, .string p.hb, .string ⟨(be (portN p.hp) 2).toArray⟩] inf _ Try.underlying152 hinf hz0 (by rw [hz1]; decide) (by rw [hz1]; decide) (by rw [hz1]; kernel_rfl) (fun t ht => by have e : (thR.getD 18 default).dst = some 26 := (by kernel_rfl); rw [e] at ht; cases ht; exact ⟨_, rfl, Blk.new w _ _⟩)
set_option maxRecDepth 100000 in
theorem th_19 (b : Nat) (w0 : World) (p : Pr) (a0 : Act) (Q : Exit → Act → World → Prop) (hl : p.lb.size ≤ 100) (hh0 : p.hb.size ≤ 100) (k2 : a0.eval (.tmp 2) = .pointer (some ⟨b, 0, none⟩)) : StepOk (md := .any) Try.prog thR Q (thA b p) (Touch (fun _ => False)) (fun _ w => thS b w0 p w) a0 19 (thR.getD 19 default) := by
  refine step_of (.inl (by kernel_rfl)) (thS_keep b w0 p) (fun aF w hC hop => ?_)
  have h26 : (thA b p) 26 (aF.eval (.tmp 26)) w := hop.rd 26 18 (by kernel_rfl)
  obtain ⟨g, h26, hg⟩ := h26
  have hv : (#[(.tmp 26)] : Array Operand).map aF.eval = #[.slice (some ⟨g, 0, none⟩) 4 4] := by simp only [List.map_toArray, List.map_cons, List.map_nil, h26]; first | done | rfl
  exact tw_call 93 #[(.tmp 26)] #[152] (by kernel_rfl) #[.slice (some ⟨g, 0, none⟩) 4 4] hv (fun w => by kernel_rfl) (Calls.mono (mix_any g (partsP p) w hg (by show 4 ≤ 8; omega) (parts_small hl hh0)) (fun e w' hh => ⟨_, hh.1, (fun t ht => by have e : (thR.getD 19 default).dst = some 27 := (by kernel_rfl); rw [e] at ht; cases ht; exact rfl), Touch.none hh.2⟩))
set_option maxRecDepth 100000 in
theorem th_20 (b : Nat) (w0 : World) (p : Pr) (a0 : Act) (Q : Exit → Act → World → Prop) (hl : p.lb.size ≤ 100) (hh0 : p.hb.size ≤ 100) (k2 : a0.eval (.tmp 2) = .pointer (some ⟨b, 0, none⟩)) : StepOk (md := .any) Try.prog thR Q (thA b p) (Touch (fun _ => False)) (fun _ w => thS b w0 p w) a0 20 (thR.getD 20 default) := by
  refine step_of (.inl (by kernel_rfl)) (thS_keep b w0 p) (fun aF w hC hop => ?_)
  have h27 : (thA b p) 27 (aF.eval (.tmp 27)) w := hop.rd 27 19 (by kernel_rfl)
  replace h27 : aF.eval (.tmp 27) = .int .u32 (hashI p) := h27
  exact tw_move (.tmp 27) (.inr (by kernel_rfl)) (fun t ht => by have e : (thR.getD 20 default).dst = some 5 := (by kernel_rfl); rw [e] at ht; cases ht; exact h27)
set_option maxRecDepth 100000 in
theorem th_all (b : Nat) (w0 : World) (p : Pr) (a0 : Act) (Q : Exit → Act → World → Prop) (hl : p.lb.size ≤ 100) (hh0 : p.hb.size ≤ 100) (k2 : a0.eval (.tmp 2) = .pointer (some ⟨b, 0, none⟩)) : ∀ i, i < 21 → StepOk (md := .any) Try.prog thR Q (thA b p) (Touch (fun _ => False)) (fun _ w => thS b w0 p w) a0 i (thR.getD i default)
  | 0, _ => th_0 b w0 p a0 Q hl hh0 k2
  | 1, _ => th_1 b w0 p a0 Q hl hh0 k2
  | 2, _ => th_2 b w0 p a0 Q hl hh0 k2
  | 3, _ => th_3 b w0 p a0 Q hl hh0 k2
  | 4, _ => th_4 b w0 p a0 Q hl hh0 k2
  | 5, _ => th_5 b w0 p a0 Q hl hh0 k2
  | 6, _ => th_6 b w0 p a0 Q hl hh0 k2
  | 7, _ => th_7 b w0 p a0 Q hl hh0 k2
  | 8, _ => th_8 b w0 p a0 Q hl hh0 k2
  | 9, _ => th_9 b w0 p a0 Q hl hh0 k2
  | 10, _ => th_10 b w0 p a0 Q hl hh0 k2
  | 11, _ => th_11 b w0 p a0 Q hl hh0 k2
  | 12, _ => th_12 b w0 p a0 Q hl hh0 k2
  | 13, _ => th_13 b w0 p a0 Q hl hh0 k2
  | 14, _ => th_14 b w0 p a0 Q hl hh0 k2
  | 15, _ => th_15 b w0 p a0 Q hl hh0 k2
  | 16, _ => th_16 b w0 p a0 Q hl hh0 k2
  | 17, _ => th_17 b w0 p a0 Q hl hh0 k2
  | 18, _ => th_18 b w0 p a0 Q hl hh0 k2
  | 19, _ => th_19 b w0 p a0 Q hl hh0 k2
  | 20, _ => th_20 b w0 p a0 Q hl hh0 k2
  | k + 21, h => absurd h (by omega)
set_option maxRecDepth 100000 in
set_option maxHeartbeats 4000000 in
theorem hash_any (p : Pr) (n : Nat) (hn : 1 ≤ n) (hl : p.lb.size ≤ 100) (hh0 : p.hb.size ≤ 100) (w : World) : Calls Try.prog 90 #[.agg #[.string p.lb, .int .i64 p.lp, .string p.hb, .int .i64 p.hp], .int .i64 (n : Int)] w fun e w' => e = .returned (.int .i64 ((hashF n p : Nat) : Int)) ∧ Below w.heap.size w w' := by
  have hr := hash_range p
  have hT0 := Touch.refl (fun _ => False) w
  go_enter Try.func90, Try.ntmps90
  refine wp_seq_k fun K1 hK1 => ?_
  refine wl_region ?_
  refine dw_new (by kernel_rfl) [(.string p.lb : Value), .int .i64 p.lp, .string p.hb, .int .i64 p.hp] 61 (by kernel_rfl) ?_
  intro n1 w2 hnn1 hsn1 hBn1 hTn1
  have hgen1 : w.heap.size ≤ n1 := by have := hT0.size; omega
  replace hT0 := hT0.trans hTn1 (fun _ _ h => h.elim)
  simp only [Act.put, List.setIfInBounds_toArray, List.set_cons_zero, List.set_cons_succ]
  refine dw_val (by kernel_rfl) (.int .i64 0) (by kernel_rfl) ?_
  simp only [Act.put, List.setIfInBounds_toArray, List.set_cons_zero, List.set_cons_succ]
  refine wl_nil ?_
  refine hK1 _ _ ?_
  refine wp_seq_k fun K2 hK2 => ?_
  refine wp_seq_k fun K3 hK3 => ?_
  refine wl_region ?_
  refine dw_val (by kernel_rfl) (.int .i64 (n : Int)) (by kernel_rfl) ?_
  simp only [Act.put, List.setIfInBounds_toArray, List.set_cons_zero, List.set_cons_succ]
  refine dw_bool (by kernel_rfl) (decide ((n : Int) < 1)) (by kernel_rfl) (fun hc => absurd hc (by simp; omega)) (fun hc => ?_)
  simp only [Act.put, List.setIfInBounds_toArray, List.set_cons_zero, List.set_cons_succ]
  refine wl_nil ?_
  refine hK3 _ _ ?_
  refine wp_cond_false rfl ?_
  refine wp_skip ?_
  refine hK2 _ _ ?_
  refine wp_seq_k fun K4 hK4 => ?_
  refine wp_region_at (R := thR) (by kernel_rfl) ?_
  have hS0 : thS n1 w p w2 := ⟨hBn1, hT0⟩
  refine wp_region_tells (thA n1 p) (Touch (fun _ => False)) (fun _ w' => thS n1 w p w') (by kernel_rfl) (by kernel_rfl) (thA_keep n1 p) (thS_keep n1 w p _ _ hS0 (Touch.refl _ _).drew) (fun i o ho => ?_) (fun listed a1 w1 hl2 hC hsl => ?_)
  · have hi : i < 21 := by have := (Array.getElem?_eq_some_iff.1 ho).1; rw [show thR.size = 21 from by kernel_rfl] at this; exact this
    obtain rfl : o = thR.getD i default := by rw [Array.getD_eq_getD_getElem?, ho]; rfl
    exact th_all n1 w p _ _ hl hh0 rfl i hi
  have he := hsl.eq [5, 8, 9, 10, 11, 12, 13, 14, 15, 16, 17, 18, 19, 20, 21, 22, 23, 24, 25, 26, 27] (by kernel_rfl)
  have hv : thA n1 p 5 (a1.tmps.getD 5 undef) w1 := hsl.wrote 20 (thR.getD 20 default) 5 (by kernel_rfl) (by kernel_rfl) (hl2 20)
  replace hv : a1.tmps.getD 5 undef = .int .u32 (hashI p) := hv
  rw [he]
  simp only [List.foldl_cons, List.foldl_nil, hv]
  generalize a1.tmps.getD 8 undef = u8
  generalize a1.tmps.getD 9 undef = u9
  generalize a1.tmps.getD 10 undef = u10
  generalize a1.tmps.getD 11 undef = u11
  generalize a1.tmps.getD 12 undef = u12
  generalize a1.tmps.getD 13 undef = u13
  generalize a1.tmps.getD 14 undef = u14
  generalize a1.tmps.getD 15 undef = u15
  generalize a1.tmps.getD 16 undef = u16
  generalize a1.tmps.getD 17 undef = u17
  generalize a1.tmps.getD 18 undef = u18
  generalize a1.tmps.getD 19 undef = u19
  generalize a1.tmps.getD 20 undef = u20
  generalize a1.tmps.getD 21 undef = u21
  generalize a1.tmps.getD 22 undef = u22
  generalize a1.tmps.getD 23 undef = u23
  generalize a1.tmps.getD 24 undef = u24
  generalize a1.tmps.getD 25 undef = u25
  generalize a1.tmps.getD 26 undef = u26
  generalize a1.tmps.getD 27 undef = u27
  clear hsl he hv hl2
  simp only [Act.put, List.setIfInBounds_toArray, List.set_cons_zero, List.set_cons_succ]
  clear hBn1 hT0
  obtain ⟨hBn1, hT0⟩ := hC
  refine hK4 _ _ ?_
  refine wp_seq_k fun K5 hK5 => ?_
  refine wl_region ?_
  refine dw_val (by kernel_rfl) (.int .u32 (hashI p)) (by kernel_rfl) ?_
  simp only [Act.put, List.setIfInBounds_toArray, List.set_cons_zero, List.set_cons_succ]
  refine dw_val2 (by kernel_rfl) (.int .i64 (IntKind.i64.wrap (hashI p))) (.int .i64 (hashI p)) (by kernel_rfl) (by rw [show IntKind.i64.wrap (hashI p) = (hashI p) from IntWalk.i64_in _ (by omega)]) ?_
  simp only [Act.put, List.setIfInBounds_toArray, List.set_cons_zero, List.set_cons_succ]
  refine dw_val (by kernel_rfl) (.int .i64 (n : Int)) (by kernel_rfl) ?_
  simp only [Act.put, List.setIfInBounds_toArray, List.set_cons_zero, List.set_cons_succ]
  refine dw_val (by kernel_rfl) (.int .i64 ((hashF n p : Nat) : Int)) (ev_rem_n (.tmp 29) (.tmp 30) hr hn rfl rfl rfl) ?_
  simp only [Act.put, List.setIfInBounds_toArray, List.set_cons_zero, List.set_cons_succ]
  refine dw_val (by kernel_rfl) (.int .i64 ((hashF n p : Nat) : Int)) (by kernel_rfl) ?_
  simp only [Act.put, List.setIfInBounds_toArray, List.set_cons_zero, List.set_cons_succ]
  refine wl_nil ?_
  refine hK5 _ _ ?_
  refine wp_ret ?_
  repeat (first | with_reducible refine ret_then ?_ | with_reducible refine ret_block ?_)
  refine bodyPost_ret (v := .int .i64 ((hashF n p : Nat) : Int)) (by kernel_rfl) rfl ?_
  exact ⟨rfl, hT0.toBelow⟩
end Go.Proofs.Ytnjbclcihhaddaa
