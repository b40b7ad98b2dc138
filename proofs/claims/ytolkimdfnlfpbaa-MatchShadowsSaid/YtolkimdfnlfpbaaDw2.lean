/- An append on a row of the call's own. Conditions: as stated. -/
import Derived.Test.YtolkimdfnlfpbaaDw
set_option linter.unusedVariables false
namespace Go.Proofs.Ytolkimdfnlfpbaa
open Go.RowKit
section
variable {P : Program} {ops : Array Oper} {rest : List Oper} {o : Oper} {a : Act} {w : World} {Q : Exit → Act → World → Prop}
theorem dw_append (hg : o.guard = none) (s x : Operand) (t : TypeId) (ho : o.op = .call { callee := .builtin .append, args := #[s, x], argTypes := #[t, t] })
    (base : Nat) (e : TypeId) (i : TypeInfo) (z : Value) (size bytes : Nat) (ht : P.underlying t = some (.slice e)) (hi : P.info? e = some i) (hz : i.zero = some z)
    (hsize : i.size = size) (hby : i.bytes = bytes) (hzs : z.cells.size = size) (hsz : 0 < size)
    (v : Value) (n : Nat) (xs : List Value) (hs : a.eval s = v) (hown : w.ownsRow base e size v n xs)
    (b m c : Nat) (news : List Value) (e' : TypeId) (hx : a.eval x = .slice (some ⟨b, 0, none⟩) m c) (hl : news.length = m * size) (hB : Blk w b news e') (h1 : news.all (·.oneCell') = true)
    (h63 : n + m ≤ maxLen) (hbytes : (n + m) * bytes ≤ 140737488355328) (hbase : base ≤ w.heap.size)
    (h : ∀ v' w', w'.ownsRow base e size v' (n + m) (xs ++ news) → Touch (fun k => some k = v.ownBlock) w w' → (∀ k, some k = v.ownBlock → base ≤ k) → WL P ops Q rest (a.put o.dst v') w') : WL P ops Q (o :: rest) a w :=
  ⟨wpList_append_own w hg s x t ho base e i z size bytes ht hi hz hsize hby hzs hsz v n xs hs hown ⟨b, 0, none⟩ m c news hx hl
    (fun j u hj => by rw [Addr.add_mid, Nat.zero_add, hB.cell]; exact hj) (fun u hu => List.all_eq_true.1 h1 u hu) h63 hbytes hbase
    (fun v' w' h2 h3 h4 => (h v' w' h2 (Touch.grown h3) (fun k hk => (hown.lt k hk.symm).1)).out)⟩
end
end Go.Proofs.Ytolkimdfnlfpbaa
