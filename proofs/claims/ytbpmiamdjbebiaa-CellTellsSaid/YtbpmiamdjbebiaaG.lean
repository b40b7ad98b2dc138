/- What cell.Hex answers. Condition: at most 3000 bytes. -/
import Derived.Test.YtbpmiamdjbebiaaF
import Derived.Deep.RegionLaw
import Derived.Deep.AppendLies
import Derived.Deep.Light
set_option linter.unusedVariables false
set_option linter.unusedSimpArgs false
namespace Go.Proofs.Ytbpmiamdjbebiaa
open Go.RowKit

def hexD (k : Nat) : UInt8 := UInt8.ofNat (if k < 10 then 48 + k else 87 + k)
/-- Bytes as digits. -/
def hexL (l : List UInt8) : List UInt8 := l.flatMap fun b => [hexD (b.toNat / 16), hexD (b.toNat % 16)]

def byteV (b : UInt8) : Value := .int .u8 b.toNat
theorem hexL_snoc (l : List UInt8) (b : UInt8) : hexL (l ++ [b]) = hexL l ++ [hexD (b.toNat / 16), hexD (b.toNat % 16)] := by simp [hexL]
theorem hexL_length (l : List UInt8) : (hexL l).length = 2 * l.length := by
  induction l with
  | nil => rfl
  | cons b l ih => simp [hexL] at *; omega
theorem take_one (s : ByteArray) (k : Nat) (h : k < s.size) : s.data.toList.take (k + 1) = s.data.toList.take k ++ [s[k]] := by
  have hlen : s.data.toList.length = s.size := by simp only [Array.length_toList]; rfl
  rw [List.take_succ_eq_append_getElem (by omega)]
  simp; rfl
theorem and15 (b : Nat) (h : b < 256) : Go.bits .and .u8 (b : Int) 15 = (b : Int) % 16 := by
  have h1 : (BitVec.ofInt 8 (b : Int)).toNat = b := by
    rw [BitVec.ofInt_natCast, BitVec.toNat_ofNat]; exact Nat.mod_eq_of_lt h
  have h2 : (BitVec.ofInt 8 (15 : Int)).toNat = 15 := rfl
  show IntKind.u8.wrap ((BitVec.ofInt 8 (b : Int) &&& BitVec.ofInt 8 (15 : Int)).toNat : Int) = _
  have h3 : b &&& 15 = b % 16 := Nat.and_two_pow_sub_one_eq_mod b 4
  rw [BitVec.toNat_and, h1, h2, h3]
  have : IntKind.u8.wrap ((b % 16 : Nat) : Int) = ((b % 16 : Nat) : Int) % 256 := by simp [IntKind.wrap, IntKind.bits, IntKind.signed]
  rw [this]; omega
theorem hexD_toNat (i : Nat) (h : i < 16) : (hexD i).toNat = if i < 10 then 48 + i else 87 + i := by
  unfold hexD; split
  · simp; omega
  · simp; omega
theorem digV (i : Nat) (hi : i < 16) (h : i < (ByteArray.mk #[48, 49, 50, 51, 52, 53, 54, 55, 56, 57, 97, 98, 99, 100, 101, 102]).size) :
    Value.int .u8 (((ByteArray.mk #[48, 49, 50, 51, 52, 53, 54, 55, 56, 57, 97, 98, 99, 100, 101, 102])[i]'h).toNat : Int) = byteV (hexD i) := by
  have := digs_at i h
  unfold byteV
  rw [hexD_toNat i hi]
  exact congrArg (fun n : Nat => Value.int .u8 (n : Int)) this
theorem two_cells (w : World) (e : TypeId) (v1 v2 u1 u2 : Value) (h1 : v1 = u1) (h2 : v2 = u2) :
    ∀ (j : Nat) (u : Value), [u1, u2][j]? = some u → ((w.alloc (.cells #[v1, v2] e)).drew).cell? ((⟨w.heap.size, 0, none⟩ : Addr).add j) = some u := by
  subst h1; subst h2
  intro j u hu
  have : (⟨w.heap.size, 0, none⟩ : Addr).add j = ⟨w.heap.size, j, none⟩ := by unfold Addr.add; split <;> simp_all
  rw [this, World.cell?_drew, World.cell?_alloc_at _ _ _ _ rfl]
  simpa using hu
theorem byteV_one (l : List UInt8) : ∀ u ∈ l.map byteV, u.oneCell' = true := by
  intro u hu
  obtain ⟨b, _, rfl⟩ := List.mem_map.1 hu
  rfl
/-- A row of bytes that the call owns, as a text. -/
theorem conv_row {w : World} {base : Nat} {v : Value} {l : List UInt8} (h : w.ownsRow base 5 1 v l.length (l.map byteV)) :
    (convert 41 9 v).run Try.prog w = .ok (.string ⟨l.toArray⟩) w := by
  rcases h.2 with ⟨rfl, h0⟩ | ⟨g, cap, cur, rfl, _⟩
  · obtain rfl : l = [] := List.eq_nil_of_length_eq_zero h0
    exact run_convert_bytes_nil w 41 5 Try.underlying41 Try.underlying5 0 0 9 Try.underlying9
  · have := run_convert_bytes_arg (P := Try.prog) w 41 5 Try.underlying41 Try.underlying5 g 0 l.length cap (l.map fun b => (b.toNat : Int)) (by simp) (fun i hi => by
      have hc := h.cells (g := g) rfl i (byteV l[i]) (by simp [hi])
      have ha : (⟨g, 0, none⟩ : Addr).add i = ⟨g, 0 + i, none⟩ := by unfold Addr.add; split <;> simp_all
      rw [ha] at hc
      rw [hc]; simp [byteV, List.getD_eq_getElem?_getD, hi]) 9 Try.underlying9
    rw [this, strOf_bytes]
set_option maxRecDepth 100000 in
theorem hex_any (s : ByteArray) (w : World) (hs : s.size ≤ 3000) :
    Calls Try.prog 19 #[.string s] w fun e w' => e = .returned (.string ⟨(hexL s.data.toList).toArray⟩) ∧ Below w.heap.size w w' := by
  obtain ⟨i0, hi, hz0, hz1, hz2⟩ := info_parts info5
  have hmk := run_make (P := Try.prog) w 41 5 i0 (.int .u8 0) Try.underlying41 hi hz0 .i64 .i64 0 (2 * s.size) (by omega) (by omega) (by rw [hz2]; omega) (by omega)
  have hown0 := World.ownsRow_made (e := 5) (base := w.heap.size) (size := 1) w (madeCells #[Value.int .u8 0] (2 * s.size)) (2 * s.size) (Nat.le_refl _) (by unfold maxLen; omega) (by simp [madeCells])
  have HO := Lib.hid hown0
  clear hown0
  rw [hz1] at hmk
  go_enter Try.func19, Try.ntmps19
  go_wp2
  go_loopw [3, 11] (fun b i wr => ∃ k : Nat, k ≤ s.size ∧ i = .int .i64 k ∧ wr.ownsRow w.heap.size 5 1 b (hexL (s.data.toList.take k)).length ((hexL (s.data.toList.take k)).map byteV) ∧ Below w.heap.size w wr) (fun _ i _ => s.size - (intOf i).toNat)
  case atStart => exact ⟨0, by omega, rfl, HO.out, (Below.refl _ _).alloc (Nat.le_refl _) _⟩
  case round =>
    obtain ⟨k, hk, rfl, hown, hb⟩ := hrel
    have HW := Lib.hid hown
    have HB := Lib.hid hb
    clear hown hb
    by_cases hlt : k < s.size
    · have hki : (k : Int) < s.size := by omega
      have hs1 := Lib.hid (hexL_snoc (s.data.toList.take k) s[k])
      have hs2 := Lib.hid (take_one s k hlt)
      have hl := Lib.hid (hexL_length (s.data.toList.take k))
      have hl2 : (s.data.toList.take k).length ≤ k := List.length_take_le _ _
      generalize hexL (s.data.toList.take k) = x at *
      have hbt : s[k].toNat < 256 := s[k].toNat_lt
      have h1 : (s[k].toNat : Int) / 16 < 16 := by omega
      have h2 : (s[k].toNat : Int) % 16 < 16 := by omega
      have hand := and15 s[k].toNat hbt
      have h3 : 0 ≤ (s[k].toNat : Int) / 16 := by omega
      have h4 : 0 ≤ (s[k].toNat : Int) % 16 := by omega
      go_wp2
      refine wp_region_hyb 11 (by kernel_rfl) (by kernel_rfl) (fun _ _ d _ _ h => by cases d <;> exact h) ?_
      simp only [List.take_succ_cons, List.take_zero, List.drop_succ_cons, List.drop_zero]
      repeat
        (refine wpReads_step (fun J hJ => ?_)
         go_simp
         refine hJ _ ?_
         clear hJ J)
      refine wpReads_nil ?_
      go_wp2_with (at_builtin; refine wpList_append_own _ rfl _ _ 41 rfl w.heap.size 5 i0 (.int .u8 0) 1 1 Try.underlying41 hi hz0 hz1 hz2 rfl (by decide) u3 x.length (x.map byteV) rfl ?hown ⟨wr.heap.size, 0, none⟩ 2 2 ?news rfl ?hl ?hnews ?hone ?h63 ?hbytes ?hbase ?h)
      case news => exact [byteV (hexD (s[k].toNat / 16)), byteV (hexD (s[k].toNat % 16))]
      case hown => exact HW.out.alloc _
      case hl => rfl
      case hnews => exact two_cells wr _ _ _ _ _ (digV _ (by omega) _) (digV _ (by omega) _)
      case hone => exact byteV_one [hexD (s[k].toNat / 16), hexD (s[k].toNat % 16)]
      case h63 => have := hl.out; unfold maxLen; omega
      case hbytes => have := hl.out; omega
      case hbase => exact Nat.le_trans HB.out.size (by simp)
      intro v' w' hown hgr hnil
      have HN := Lib.hid hown
      have HG := Lib.hid hgr
      clear hown hgr hnil
      go_wp2
      go_light
      go_roundw
      case rel =>
        refine ⟨k + 1, by omega, by go_num, ?_, ?_⟩
        · rw [hs2.out, hs1.out, List.length_append, List.map_append]; exact HN.out
        · exact (HB.out.alloc HB.out.size _).drew.grown HG.out (by simp; exact Nat.le_succ_of_le HB.out.size) (fun g hg => (HW.out.lt g hg).1)
      case measure => simp [intOf]; omega
    · obtain rfl : k = s.size := by omega
      have hf : s.data.toList.take s.size = s.data.toList := List.take_of_length_le (by simp only [Array.length_toList]; exact Nat.le_refl _)
      rw [hf] at HW
      have hcv := conv_row HW.out
      clear hf
      go_wp2
      go_ret
      exact ⟨rfl, HB.out⟩
end Go.Proofs.Ytbpmiamdjbebiaa
