/-
  No cell of these rows narrows 'for every input' (looked for: loops, veiled, ifaces, maps, wideKeys, modest, calm, conditions, laid).
  DERIVED. THE GIVEN ROWS OF THIS SEAT. 5 by the template 'for every input the law returns true; each argument reads behind the call as it read before'; 0 by the template 'total and deterministic' (their statements: YtofjmlnoljigfaaTotals.lean).
  GIVEN WITH THE SEED: the statements are not yours to turn. If you find one false, say at which input.
  Laid BY PROGRAM, IN A SANDBOX (cutbox-rows.mjs): the forced cells as the released guide's own fill.sh prints them over the translation 40a5f6fa90650544… (all of the seat's roots in one cut). By AI agents, Wed Nov 11 2026. No macro, syntax, notation, axiom, sorry.
-/
import Derived.Test.YtofjmlnoljigfaaChecked
import GoSem.Claim
import GoSem.ClaimJoined
import GoSem.ClaimMapViews
import Derived.JoinedTies
import Derived.KernelRfl
namespace Go.Proofs.Ytofjmlnoljigfaa
/- THE CELL 'sum', in the pinned program and in every row, IS THE sha256 OF THE DUMP (.gsa) THAT YtofjmlnoljigfaaProg.lean LOADS. Nothing in Lean hashes anything: it is a label: what it is worth is what the hold of that sum in a sandbox is worth. -/
noncomputable def Try.pinned : Pinned := { name := "ytofjmlnoljigfaa", sum := "40a5f6fa90650544d72ccb1a417e8aba3b807d2d69ada8d7bfcb10e055ffed76", checked := Try.checked }
namespace Rows
def none {H : Type} : Left H := { results := [], args := [] }

/-- 'rampartlaw12.SatPlays': WHATEVER THE INPUT: true; the input reads as it did. -/
def satPlaysSpec : ChangeSpec := { name := "satPlays", fn := fun _ => fun
  | [d1, d2, d3] => { results := [.lit (.bool true)], args := [d1, d2, d3] }
  | _ => none }
def satPlaysRow : OpenClaim := { program := "ytofjmlnoljigfaa", sum := "40a5f6fa90650544d72ccb1a417e8aba3b807d2d69ada8d7bfcb10e055ffed76", func := "rampart/rampartlaw12.SatPlays", spec := "satPlays", inPlace := ["sync/atomic.LoadInt64", "sync/atomic.StoreInt64", "sync/atomic.SwapInt64"], apart := false }
def SatPlaysSaid : Prop := satPlaysRow.holds Try.pinned (OpenSpec.ofChange satPlaysSpec)

/-- ITS FALSE NEIGHBOUR: 'it returns false'. Refute it at one input. -/
def satPlaysWrong : ChangeSpec := { name := "satPlays", fn := fun _ => fun
  | [d1, d2, d3] => { results := [.lit (.bool false)], args := [d1, d2, d3] }
  | _ => none }
def SatPlaysWrongFalsely : Prop := satPlaysRow.holds Try.pinned (OpenSpec.ofChange satPlaysWrong)

/-- 'rampartlaw12.SatTop': WHATEVER THE INPUT: true; the input reads as it did. -/
def satTopSpec : ChangeSpec := { name := "satTop", fn := fun _ => fun
  | [d1, d2] => { results := [.lit (.bool true)], args := [d1, d2] }
  | _ => none }
def satTopRow : OpenClaim := { program := "ytofjmlnoljigfaa", sum := "40a5f6fa90650544d72ccb1a417e8aba3b807d2d69ada8d7bfcb10e055ffed76", func := "rampart/rampartlaw12.SatTop", spec := "satTop", inPlace := ["sync/atomic.LoadInt64", "sync/atomic.StoreInt64", "sync/atomic.SwapInt64"], apart := false }
def SatTopSaid : Prop := satTopRow.holds Try.pinned (OpenSpec.ofChange satTopSpec)

/-- ITS FALSE NEIGHBOUR: 'it returns false'. Refute it at one input. -/
def satTopWrong : ChangeSpec := { name := "satTop", fn := fun _ => fun
  | [d1, d2] => { results := [.lit (.bool false)], args := [d1, d2] }
  | _ => none }
def SatTopWrongFalsely : Prop := satTopRow.holds Try.pinned (OpenSpec.ofChange satTopWrong)

/-- 'rampartlaw12.SatOrder': WHATEVER THE INPUT: true; the input reads as it did. -/
def satOrderSpec : ChangeSpec := { name := "satOrder", fn := fun _ => fun
  | [d1, d2, d3] => { results := [.lit (.bool true)], args := [d1, d2, d3] }
  | _ => none }
def satOrderRow : OpenClaim := { program := "ytofjmlnoljigfaa", sum := "40a5f6fa90650544d72ccb1a417e8aba3b807d2d69ada8d7bfcb10e055ffed76", func := "rampart/rampartlaw12.SatOrder", spec := "satOrder", inPlace := ["sync/atomic.LoadInt64", "sync/atomic.StoreInt64", "sync/atomic.SwapInt64"], apart := false }
def SatOrderSaid : Prop := satOrderRow.holds Try.pinned (OpenSpec.ofChange satOrderSpec)

/-- ITS FALSE NEIGHBOUR: 'it returns false'. Refute it at one input. -/
def satOrderWrong : ChangeSpec := { name := "satOrder", fn := fun _ => fun
  | [d1, d2, d3] => { results := [.lit (.bool false)], args := [d1, d2, d3] }
  | _ => none }
def SatOrderWrongFalsely : Prop := satOrderRow.holds Try.pinned (OpenSpec.ofChange satOrderWrong)

/-- 'rampartlaw12.SatNil': WHATEVER THE INPUT: true; the input reads as it did. -/
def satNilSpec : ChangeSpec := { name := "satNil", fn := fun _ => fun
  | [d1, d2] => { results := [.lit (.bool true)], args := [d1, d2] }
  | _ => none }
def satNilRow : OpenClaim := { program := "ytofjmlnoljigfaa", sum := "40a5f6fa90650544d72ccb1a417e8aba3b807d2d69ada8d7bfcb10e055ffed76", func := "rampart/rampartlaw12.SatNil", spec := "satNil", inPlace := ["sync/atomic.LoadInt64", "sync/atomic.StoreInt64", "sync/atomic.SwapInt64"], apart := false }
def SatNilSaid : Prop := satNilRow.holds Try.pinned (OpenSpec.ofChange satNilSpec)

/-- ITS FALSE NEIGHBOUR: 'it returns false'. Refute it at one input. -/
def satNilWrong : ChangeSpec := { name := "satNil", fn := fun _ => fun
  | [d1, d2] => { results := [.lit (.bool false)], args := [d1, d2] }
  | _ => none }
def SatNilWrongFalsely : Prop := satNilRow.holds Try.pinned (OpenSpec.ofChange satNilWrong)

/-- 'rampartlaw12.SatMany': WHATEVER THE INPUT: true; the input reads as it did. -/
def satManySpec : ChangeSpec := { name := "satMany", fn := fun _ => fun
  | [d1, d2] => { results := [.lit (.bool true)], args := [d1, d2] }
  | _ => none }
def satManyRow : OpenClaim := { program := "ytofjmlnoljigfaa", sum := "40a5f6fa90650544d72ccb1a417e8aba3b807d2d69ada8d7bfcb10e055ffed76", func := "rampart/rampartlaw12.SatMany", spec := "satMany", inPlace := ["sync/atomic.LoadInt64", "sync/atomic.StoreInt64", "sync/atomic.SwapInt64"], apart := false }
def SatManySaid : Prop := satManyRow.holds Try.pinned (OpenSpec.ofChange satManySpec)

/-- ITS FALSE NEIGHBOUR: 'it returns false'. Refute it at one input. -/
def satManyWrong : ChangeSpec := { name := "satMany", fn := fun _ => fun
  | [d1, d2] => { results := [.lit (.bool false)], args := [d1, d2] }
  | _ => none }
def SatManyWrongFalsely : Prop := satManyRow.holds Try.pinned (OpenSpec.ofChange satManyWrong)

/- THE SECOND FORM. 'bulk': how many values and letters a reading holds, each counted each time it is reached (what is shared counts as often as it is met; a slice's spare places count too). A statement '..UptoSaid' is the law's where the arguments, and the package variables that the reading takes, are together of bulk at most 1048576: NARROWER than '..Said'. Prove '..Said' where nothing that the law and all that it calls make is longer than what came in: it says more and counts as full. Else prove '..UptoSaid'. A law counts once. -/
mutual
def uptoBulk {H : Type} : DataW H → Nat
  | .lit (.string bytes) => bytes.length + 1
  | .lit _ => 1
  | .nil => 1
  | .ptr d => uptoBulk d + 1
  | .slice elems spare => uptoBulkAll elems + uptoBulkAll spare + 1
  | .agg parts => uptoBulkAll parts + 1
  | .iface _ d => uptoBulk d + 1
  | .map entries => uptoBulkEntries entries + 1
  | .held _ => 1
def uptoBulkAll {H : Type} : List (DataW H) → Nat
  | [] => 0
  | d :: r => uptoBulk d + uptoBulkAll r
def uptoBulkEntries {H : Type} : List (Lit × DataW H) → Nat
  | [] => 0
  | x :: r => uptoBulkEntry x + uptoBulkEntries r
def uptoBulkEntry {H : Type} : Lit × DataW H → Nat
  | (.string bytes, d) => bytes.length + uptoBulk d + 1
  | (_, d) => uptoBulk d + 1
 end
def uptoSmall : (H : Type) → List (DataW H) → Bool := fun _ ds => decide (uptoBulkAll ds ≤ 1048576)
def OpenSpec.upto (s : _root_.Go.ChangeSpec) : _root_.Go.OpenSpec := { _root_.Go.OpenSpec.ofChange s with cond := some uptoSmall }

/-- 'rampartlaw12.SatPlays', WHERE WHAT IT READS IS OF BULK AT MOST 1048576: true; the input reads as it did. -/
def satPlaysUptoRow : OpenClaim := { program := "ytofjmlnoljigfaa", sum := "40a5f6fa90650544d72ccb1a417e8aba3b807d2d69ada8d7bfcb10e055ffed76", func := "rampart/rampartlaw12.SatPlays", spec := "satPlays", inPlace := ["sync/atomic.LoadInt64", "sync/atomic.StoreInt64", "sync/atomic.SwapInt64"], apart := false, narrowed := true }
def SatPlaysUptoSaid : Prop := satPlaysUptoRow.holds Try.pinned (OpenSpec.upto satPlaysSpec)

/-- 'rampartlaw12.SatTop', WHERE WHAT IT READS IS OF BULK AT MOST 1048576: true; the input reads as it did. -/
def satTopUptoRow : OpenClaim := { program := "ytofjmlnoljigfaa", sum := "40a5f6fa90650544d72ccb1a417e8aba3b807d2d69ada8d7bfcb10e055ffed76", func := "rampart/rampartlaw12.SatTop", spec := "satTop", inPlace := ["sync/atomic.LoadInt64", "sync/atomic.StoreInt64", "sync/atomic.SwapInt64"], apart := false, narrowed := true }
def SatTopUptoSaid : Prop := satTopUptoRow.holds Try.pinned (OpenSpec.upto satTopSpec)

/-- 'rampartlaw12.SatOrder', WHERE WHAT IT READS IS OF BULK AT MOST 1048576: true; the input reads as it did. -/
def satOrderUptoRow : OpenClaim := { program := "ytofjmlnoljigfaa", sum := "40a5f6fa90650544d72ccb1a417e8aba3b807d2d69ada8d7bfcb10e055ffed76", func := "rampart/rampartlaw12.SatOrder", spec := "satOrder", inPlace := ["sync/atomic.LoadInt64", "sync/atomic.StoreInt64", "sync/atomic.SwapInt64"], apart := false, narrowed := true }
def SatOrderUptoSaid : Prop := satOrderUptoRow.holds Try.pinned (OpenSpec.upto satOrderSpec)

/-- 'rampartlaw12.SatNil', WHERE WHAT IT READS IS OF BULK AT MOST 1048576: true; the input reads as it did. -/
def satNilUptoRow : OpenClaim := { program := "ytofjmlnoljigfaa", sum := "40a5f6fa90650544d72ccb1a417e8aba3b807d2d69ada8d7bfcb10e055ffed76", func := "rampart/rampartlaw12.SatNil", spec := "satNil", inPlace := ["sync/atomic.LoadInt64", "sync/atomic.StoreInt64", "sync/atomic.SwapInt64"], apart := false, narrowed := true }
def SatNilUptoSaid : Prop := satNilUptoRow.holds Try.pinned (OpenSpec.upto satNilSpec)

/-- 'rampartlaw12.SatMany', WHERE WHAT IT READS IS OF BULK AT MOST 1048576: true; the input reads as it did. -/
def satManyUptoRow : OpenClaim := { program := "ytofjmlnoljigfaa", sum := "40a5f6fa90650544d72ccb1a417e8aba3b807d2d69ada8d7bfcb10e055ffed76", func := "rampart/rampartlaw12.SatMany", spec := "satMany", inPlace := ["sync/atomic.LoadInt64", "sync/atomic.StoreInt64", "sync/atomic.SwapInt64"], apart := false, narrowed := true }
def SatManyUptoSaid : Prop := satManyUptoRow.holds Try.pinned (OpenSpec.upto satManySpec)

end Rows
end Go.Proofs.Ytofjmlnoljigfaa
