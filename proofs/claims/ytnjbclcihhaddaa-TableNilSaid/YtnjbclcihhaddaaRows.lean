/-
  No cell of these rows narrows 'for every input' (looked for: loops, veiled, ifaces, maps, wideKeys, modest, calm, conditions, laid).
  DERIVED. THE GIVEN ROWS OF THIS SEAT. 14 by the template 'for every input the law returns true; each argument reads behind the call as it read before'; 0 by the template 'total and deterministic' (their statements: YtnjbclcihhaddaaTotals.lean).
  GIVEN WITH THE SEED: the statements are not yours to turn. If you find one false, say at which input.
  Laid BY PROGRAM, IN A SANDBOX (cutbox-rows.mjs): the forced cells as the released guide's own fill.sh prints them over the translation e9c4fa5be81b9f69… (all of the seat's roots in one cut). By AI agents, Wed Nov 11 2026. No macro, syntax, notation, axiom, sorry.
-/
import Derived.Test.YtnjbclcihhaddaaChecked
import GoSem.Claim
import GoSem.ClaimJoined
import GoSem.ClaimMapViews
import Derived.JoinedTies
import Derived.KernelRfl
namespace Go.Proofs.Ytnjbclcihhaddaa
/- THE CELL 'sum', in the pinned program and in every row, IS THE sha256 OF THE DUMP (.gsa) THAT YtnjbclcihhaddaaProg.lean LOADS. Nothing in Lean hashes anything: it is a label: what it is worth is what the hold of that sum in a sandbox is worth. -/
noncomputable def Try.pinned : Pinned := { name := "ytnjbclcihhaddaa", sum := "e9c4fa5be81b9f69e77ed4b665375a9a3264f77cc5b14eff0ddecfc2f02194f9", checked := Try.checked }
namespace Rows
def none {H : Type} : Left H := { results := [], args := [] }

/-- 'rampartlaw14.WheelOrder': WHATEVER THE INPUT: true; the input reads as it did. -/
def wheelOrderSpec : ChangeSpec := { name := "wheelOrder", fn := fun _ => fun
  | [d1, d2] => { results := [.lit (.bool true)], args := [d1, d2] }
  | _ => none }
def wheelOrderRow : OpenClaim := { program := "ytnjbclcihhaddaa", sum := "e9c4fa5be81b9f69e77ed4b665375a9a3264f77cc5b14eff0ddecfc2f02194f9", func := "rampart/rampartlaw14.WheelOrder", spec := "wheelOrder", apart := false }
def WheelOrderSaid : Prop := wheelOrderRow.holds Try.pinned (OpenSpec.ofChange wheelOrderSpec)

/-- ITS FALSE NEIGHBOUR: 'it returns false'. Refute it at one input. -/
def wheelOrderWrong : ChangeSpec := { name := "wheelOrder", fn := fun _ => fun
  | [d1, d2] => { results := [.lit (.bool false)], args := [d1, d2] }
  | _ => none }
def WheelOrderWrongFalsely : Prop := wheelOrderRow.holds Try.pinned (OpenSpec.ofChange wheelOrderWrong)

/-- 'rampartlaw14.WheelNext': WHATEVER THE INPUT: true; the input reads as it did. -/
def wheelNextSpec : ChangeSpec := { name := "wheelNext", fn := fun _ => fun
  | [d] => { results := [.lit (.bool true)], args := [d] }
  | _ => none }
def wheelNextRow : OpenClaim := { program := "ytnjbclcihhaddaa", sum := "e9c4fa5be81b9f69e77ed4b665375a9a3264f77cc5b14eff0ddecfc2f02194f9", func := "rampart/rampartlaw14.WheelNext", spec := "wheelNext", apart := false }
def WheelNextSaid : Prop := wheelNextRow.holds Try.pinned (OpenSpec.ofChange wheelNextSpec)

/-- ITS FALSE NEIGHBOUR: 'it returns false'. Refute it at one input. -/
def wheelNextWrong : ChangeSpec := { name := "wheelNext", fn := fun _ => fun
  | [d] => { results := [.lit (.bool false)], args := [d] }
  | _ => none }
def WheelNextWrongFalsely : Prop := wheelNextRow.holds Try.pinned (OpenSpec.ofChange wheelNextWrong)

/-- 'rampartlaw14.WheelPlays': WHATEVER THE INPUT: true; the input reads as it did. -/
def wheelPlaysSpec : ChangeSpec := { name := "wheelPlays", fn := fun _ => fun
  | [d] => { results := [.lit (.bool true)], args := [d] }
  | _ => none }
def wheelPlaysRow : OpenClaim := { program := "ytnjbclcihhaddaa", sum := "e9c4fa5be81b9f69e77ed4b665375a9a3264f77cc5b14eff0ddecfc2f02194f9", func := "rampart/rampartlaw14.WheelPlays", spec := "wheelPlays", apart := false }
def WheelPlaysSaid : Prop := wheelPlaysRow.holds Try.pinned (OpenSpec.ofChange wheelPlaysSpec)

/-- ITS FALSE NEIGHBOUR: 'it returns false'. Refute it at one input. -/
def wheelPlaysWrong : ChangeSpec := { name := "wheelPlays", fn := fun _ => fun
  | [d] => { results := [.lit (.bool false)], args := [d] }
  | _ => none }
def WheelPlaysWrongFalsely : Prop := wheelPlaysRow.holds Try.pinned (OpenSpec.ofChange wheelPlaysWrong)

/-- 'rampartlaw14.WheelNil': WHATEVER THE INPUT: true; the input reads as it did. -/
def wheelNilSpec : ChangeSpec := { name := "wheelNil", fn := fun _ => fun
  | [d] => { results := [.lit (.bool true)], args := [d] }
  | _ => none }
def wheelNilRow : OpenClaim := { program := "ytnjbclcihhaddaa", sum := "e9c4fa5be81b9f69e77ed4b665375a9a3264f77cc5b14eff0ddecfc2f02194f9", func := "rampart/rampartlaw14.WheelNil", spec := "wheelNil", apart := false }
def WheelNilSaid : Prop := wheelNilRow.holds Try.pinned (OpenSpec.ofChange wheelNilSpec)

/-- ITS FALSE NEIGHBOUR: 'it returns false'. Refute it at one input. -/
def wheelNilWrong : ChangeSpec := { name := "wheelNil", fn := fun _ => fun
  | [d] => { results := [.lit (.bool false)], args := [d] }
  | _ => none }
def WheelNilWrongFalsely : Prop := wheelNilRow.holds Try.pinned (OpenSpec.ofChange wheelNilWrong)

/-- 'rampartlaw13.TableKeeps': WHATEVER THE INPUT: true; the input reads as it did. -/
def tableKeepsSpec : ChangeSpec := { name := "tableKeeps", fn := fun _ => fun
  | [d1, d2, d3] => { results := [.lit (.bool true)], args := [d1, d2, d3] }
  | _ => none }
def tableKeepsRow : OpenClaim := { program := "ytnjbclcihhaddaa", sum := "e9c4fa5be81b9f69e77ed4b665375a9a3264f77cc5b14eff0ddecfc2f02194f9", func := "rampart/rampartlaw13.TableKeeps", spec := "tableKeeps", apart := false }
def TableKeepsSaid : Prop := tableKeepsRow.holds Try.pinned (OpenSpec.ofChange tableKeepsSpec)

/-- ITS FALSE NEIGHBOUR: 'it returns false'. Refute it at one input. -/
def tableKeepsWrong : ChangeSpec := { name := "tableKeeps", fn := fun _ => fun
  | [d1, d2, d3] => { results := [.lit (.bool false)], args := [d1, d2, d3] }
  | _ => none }
def TableKeepsWrongFalsely : Prop := tableKeepsRow.holds Try.pinned (OpenSpec.ofChange tableKeepsWrong)

/-- 'rampartlaw13.TableFills': WHATEVER THE INPUT: true; the input reads as it did. -/
def tableFillsSpec : ChangeSpec := { name := "tableFills", fn := fun _ => fun
  | [d1, d2] => { results := [.lit (.bool true)], args := [d1, d2] }
  | _ => none }
def tableFillsRow : OpenClaim := { program := "ytnjbclcihhaddaa", sum := "e9c4fa5be81b9f69e77ed4b665375a9a3264f77cc5b14eff0ddecfc2f02194f9", func := "rampart/rampartlaw13.TableFills", spec := "tableFills", apart := false }
def TableFillsSaid : Prop := tableFillsRow.holds Try.pinned (OpenSpec.ofChange tableFillsSpec)

/-- ITS FALSE NEIGHBOUR: 'it returns false'. Refute it at one input. -/
def tableFillsWrong : ChangeSpec := { name := "tableFills", fn := fun _ => fun
  | [d1, d2] => { results := [.lit (.bool false)], args := [d1, d2] }
  | _ => none }
def TableFillsWrongFalsely : Prop := tableFillsRow.holds Try.pinned (OpenSpec.ofChange tableFillsWrong)

/-- 'rampartlaw13.TableSame': WHATEVER THE INPUT: true; the input reads as it did. -/
def tableSameSpec : ChangeSpec := { name := "tableSame", fn := fun _ => fun
  | [d1, d2] => { results := [.lit (.bool true)], args := [d1, d2] }
  | _ => none }
def tableSameRow : OpenClaim := { program := "ytnjbclcihhaddaa", sum := "e9c4fa5be81b9f69e77ed4b665375a9a3264f77cc5b14eff0ddecfc2f02194f9", func := "rampart/rampartlaw13.TableSame", spec := "tableSame", apart := false }
def TableSameSaid : Prop := tableSameRow.holds Try.pinned (OpenSpec.ofChange tableSameSpec)

/-- ITS FALSE NEIGHBOUR: 'it returns false'. Refute it at one input. -/
def tableSameWrong : ChangeSpec := { name := "tableSame", fn := fun _ => fun
  | [d1, d2] => { results := [.lit (.bool false)], args := [d1, d2] }
  | _ => none }
def TableSameWrongFalsely : Prop := tableSameRow.holds Try.pinned (OpenSpec.ofChange tableSameWrong)

/-- 'rampartlaw13.TablePlays': WHATEVER THE INPUT: true; the input reads as it did. -/
def tablePlaysSpec : ChangeSpec := { name := "tablePlays", fn := fun _ => fun
  | [d1, d2] => { results := [.lit (.bool true)], args := [d1, d2] }
  | _ => none }
def tablePlaysRow : OpenClaim := { program := "ytnjbclcihhaddaa", sum := "e9c4fa5be81b9f69e77ed4b665375a9a3264f77cc5b14eff0ddecfc2f02194f9", func := "rampart/rampartlaw13.TablePlays", spec := "tablePlays", apart := false }
def TablePlaysSaid : Prop := tablePlaysRow.holds Try.pinned (OpenSpec.ofChange tablePlaysSpec)

/-- ITS FALSE NEIGHBOUR: 'it returns false'. Refute it at one input. -/
def tablePlaysWrong : ChangeSpec := { name := "tablePlays", fn := fun _ => fun
  | [d1, d2] => { results := [.lit (.bool false)], args := [d1, d2] }
  | _ => none }
def TablePlaysWrongFalsely : Prop := tablePlaysRow.holds Try.pinned (OpenSpec.ofChange tablePlaysWrong)

/-- 'rampartlaw13.TableNil': WHATEVER THE INPUT: true; the input reads as it did. -/
def tableNilSpec : ChangeSpec := { name := "tableNil", fn := fun _ => fun
  | [d] => { results := [.lit (.bool true)], args := [d] }
  | _ => none }
def tableNilRow : OpenClaim := { program := "ytnjbclcihhaddaa", sum := "e9c4fa5be81b9f69e77ed4b665375a9a3264f77cc5b14eff0ddecfc2f02194f9", func := "rampart/rampartlaw13.TableNil", spec := "tableNil", apart := false }
def TableNilSaid : Prop := tableNilRow.holds Try.pinned (OpenSpec.ofChange tableNilSpec)

/-- ITS FALSE NEIGHBOUR: 'it returns false'. Refute it at one input. -/
def tableNilWrong : ChangeSpec := { name := "tableNil", fn := fun _ => fun
  | [d] => { results := [.lit (.bool false)], args := [d] }
  | _ => none }
def TableNilWrongFalsely : Prop := tableNilRow.holds Try.pinned (OpenSpec.ofChange tableNilWrong)

/-- 'rampartlaw15.FlowsTime': WHATEVER THE INPUT: true; the input reads as it did. -/
def flowsTimeSpec : ChangeSpec := { name := "flowsTime", fn := fun _ => fun
  | [d1, d2] => { results := [.lit (.bool true)], args := [d1, d2] }
  | _ => none }
def flowsTimeRow : OpenClaim := { program := "ytnjbclcihhaddaa", sum := "e9c4fa5be81b9f69e77ed4b665375a9a3264f77cc5b14eff0ddecfc2f02194f9", func := "rampart/rampartlaw15.FlowsTime", spec := "flowsTime", apart := false }
def FlowsTimeSaid : Prop := flowsTimeRow.holds Try.pinned (OpenSpec.ofChange flowsTimeSpec)

/-- ITS FALSE NEIGHBOUR: 'it returns false'. Refute it at one input. -/
def flowsTimeWrong : ChangeSpec := { name := "flowsTime", fn := fun _ => fun
  | [d1, d2] => { results := [.lit (.bool false)], args := [d1, d2] }
  | _ => none }
def FlowsTimeWrongFalsely : Prop := flowsTimeRow.holds Try.pinned (OpenSpec.ofChange flowsTimeWrong)

/-- 'rampartlaw15.FlowsEvict': WHATEVER THE INPUT: true; the input reads as it did. -/
def flowsEvictSpec : ChangeSpec := { name := "flowsEvict", fn := fun _ => fun
  | [d1, d2] => { results := [.lit (.bool true)], args := [d1, d2] }
  | _ => none }
def flowsEvictRow : OpenClaim := { program := "ytnjbclcihhaddaa", sum := "e9c4fa5be81b9f69e77ed4b665375a9a3264f77cc5b14eff0ddecfc2f02194f9", func := "rampart/rampartlaw15.FlowsEvict", spec := "flowsEvict", apart := false }
def FlowsEvictSaid : Prop := flowsEvictRow.holds Try.pinned (OpenSpec.ofChange flowsEvictSpec)

/-- ITS FALSE NEIGHBOUR: 'it returns false'. Refute it at one input. -/
def flowsEvictWrong : ChangeSpec := { name := "flowsEvict", fn := fun _ => fun
  | [d1, d2] => { results := [.lit (.bool false)], args := [d1, d2] }
  | _ => none }
def FlowsEvictWrongFalsely : Prop := flowsEvictRow.holds Try.pinned (OpenSpec.ofChange flowsEvictWrong)

/-- 'rampartlaw15.FlowsPlays': WHATEVER THE INPUT: true; the input reads as it did. -/
def flowsPlaysSpec : ChangeSpec := { name := "flowsPlays", fn := fun _ => fun
  | [d1, d2] => { results := [.lit (.bool true)], args := [d1, d2] }
  | _ => none }
def flowsPlaysRow : OpenClaim := { program := "ytnjbclcihhaddaa", sum := "e9c4fa5be81b9f69e77ed4b665375a9a3264f77cc5b14eff0ddecfc2f02194f9", func := "rampart/rampartlaw15.FlowsPlays", spec := "flowsPlays", apart := false }
def FlowsPlaysSaid : Prop := flowsPlaysRow.holds Try.pinned (OpenSpec.ofChange flowsPlaysSpec)

/-- ITS FALSE NEIGHBOUR: 'it returns false'. Refute it at one input. -/
def flowsPlaysWrong : ChangeSpec := { name := "flowsPlays", fn := fun _ => fun
  | [d1, d2] => { results := [.lit (.bool false)], args := [d1, d2] }
  | _ => none }
def FlowsPlaysWrongFalsely : Prop := flowsPlaysRow.holds Try.pinned (OpenSpec.ofChange flowsPlaysWrong)

/-- 'rampartlaw15.FlowsSure': WHATEVER THE INPUT: true; the input reads as it did. -/
def flowsSureSpec : ChangeSpec := { name := "flowsSure", fn := fun _ => fun
  | [d1, d2] => { results := [.lit (.bool true)], args := [d1, d2] }
  | _ => none }
def flowsSureRow : OpenClaim := { program := "ytnjbclcihhaddaa", sum := "e9c4fa5be81b9f69e77ed4b665375a9a3264f77cc5b14eff0ddecfc2f02194f9", func := "rampart/rampartlaw15.FlowsSure", spec := "flowsSure", apart := false }
def FlowsSureSaid : Prop := flowsSureRow.holds Try.pinned (OpenSpec.ofChange flowsSureSpec)

/-- ITS FALSE NEIGHBOUR: 'it returns false'. Refute it at one input. -/
def flowsSureWrong : ChangeSpec := { name := "flowsSure", fn := fun _ => fun
  | [d1, d2] => { results := [.lit (.bool false)], args := [d1, d2] }
  | _ => none }
def FlowsSureWrongFalsely : Prop := flowsSureRow.holds Try.pinned (OpenSpec.ofChange flowsSureWrong)

/-- 'rampartlaw15.FlowsNil': WHATEVER THE INPUT: true; the input reads as it did. -/
def flowsNilSpec : ChangeSpec := { name := "flowsNil", fn := fun _ => fun
  | [d1, d2] => { results := [.lit (.bool true)], args := [d1, d2] }
  | _ => none }
def flowsNilRow : OpenClaim := { program := "ytnjbclcihhaddaa", sum := "e9c4fa5be81b9f69e77ed4b665375a9a3264f77cc5b14eff0ddecfc2f02194f9", func := "rampart/rampartlaw15.FlowsNil", spec := "flowsNil", apart := false }
def FlowsNilSaid : Prop := flowsNilRow.holds Try.pinned (OpenSpec.ofChange flowsNilSpec)

/-- ITS FALSE NEIGHBOUR: 'it returns false'. Refute it at one input. -/
def flowsNilWrong : ChangeSpec := { name := "flowsNil", fn := fun _ => fun
  | [d1, d2] => { results := [.lit (.bool false)], args := [d1, d2] }
  | _ => none }
def FlowsNilWrongFalsely : Prop := flowsNilRow.holds Try.pinned (OpenSpec.ofChange flowsNilWrong)

/- THE SECOND FORM. 'bulk': how many values and letters a reading holds, each counted each time it is reached (what is shared counts as often as it is met; a slice's spare places count too). A statement '..UptoSaid' is the law's where the arguments, and the package variables that the reading takes, are together of bulk at most 1048576: NARROWER than '..Said'. Prove '..Said' where nothing that the law and all that it calls make is longer than what came in: it says more and counts as full. Else prove '..UptoSaid'. A law counts once. -/
mutual
def uptoBulk {H : Type} : DataW H → Nat
  | .lit (.string bytes) => bytes.length + 1
  | .lit _ => 1
  | .nil => 1
  | .ptr d => uptoBulk d + 1
  | .slice elems spare => uptoBulkAll elems + uptoBulkAll spare + 1
  | .agg parts => uptoBulkAll parts + 1
  | .iface _ d => uptoBulk d + 1
  | .map entries => uptoBulkEntries entries + 1
  | .held _ => 1
def uptoBulkAll {H : Type} : List (DataW H) → Nat
  | [] => 0
  | d :: r => uptoBulk d + uptoBulkAll r
def uptoBulkEntries {H : Type} : List (Lit × DataW H) → Nat
  | [] => 0
  | x :: r => uptoBulkEntry x + uptoBulkEntries r
def uptoBulkEntry {H : Type} : Lit × DataW H → Nat
  | (.string bytes, d) => bytes.length + uptoBulk d + 1
  | (_, d) => uptoBulk d + 1
 end
def uptoSmall : (H : Type) → List (DataW H) → Bool := fun _ ds => decide (uptoBulkAll ds ≤ 1048576)
def OpenSpec.upto (s : _root_.Go.ChangeSpec) : _root_.Go.OpenSpec := { _root_.Go.OpenSpec.ofChange s with cond := some uptoSmall }

/-- 'rampartlaw14.WheelOrder', WHERE WHAT IT READS IS OF BULK AT MOST 1048576: true; the input reads as it did. -/
def wheelOrderUptoRow : OpenClaim := { program := "ytnjbclcihhaddaa", sum := "e9c4fa5be81b9f69e77ed4b665375a9a3264f77cc5b14eff0ddecfc2f02194f9", func := "rampart/rampartlaw14.WheelOrder", spec := "wheelOrder", apart := false, narrowed := true }
def WheelOrderUptoSaid : Prop := wheelOrderUptoRow.holds Try.pinned (OpenSpec.upto wheelOrderSpec)

/-- 'rampartlaw14.WheelNext', WHERE WHAT IT READS IS OF BULK AT MOST 1048576: true; the input reads as it did. -/
def wheelNextUptoRow : OpenClaim := { program := "ytnjbclcihhaddaa", sum := "e9c4fa5be81b9f69e77ed4b665375a9a3264f77cc5b14eff0ddecfc2f02194f9", func := "rampart/rampartlaw14.WheelNext", spec := "wheelNext", apart := false, narrowed := true }
def WheelNextUptoSaid : Prop := wheelNextUptoRow.holds Try.pinned (OpenSpec.upto wheelNextSpec)

/-- 'rampartlaw14.WheelPlays', WHERE WHAT IT READS IS OF BULK AT MOST 1048576: true; the input reads as it did. -/
def wheelPlaysUptoRow : OpenClaim := { program := "ytnjbclcihhaddaa", sum := "e9c4fa5be81b9f69e77ed4b665375a9a3264f77cc5b14eff0ddecfc2f02194f9", func := "rampart/rampartlaw14.WheelPlays", spec := "wheelPlays", apart := false, narrowed := true }
def WheelPlaysUptoSaid : Prop := wheelPlaysUptoRow.holds Try.pinned (OpenSpec.upto wheelPlaysSpec)

/-- 'rampartlaw14.WheelNil', WHERE WHAT IT READS IS OF BULK AT MOST 1048576: true; the input reads as it did. -/
def wheelNilUptoRow : OpenClaim := { program := "ytnjbclcihhaddaa", sum := "e9c4fa5be81b9f69e77ed4b665375a9a3264f77cc5b14eff0ddecfc2f02194f9", func := "rampart/rampartlaw14.WheelNil", spec := "wheelNil", apart := false, narrowed := true }
def WheelNilUptoSaid : Prop := wheelNilUptoRow.holds Try.pinned (OpenSpec.upto wheelNilSpec)

/-- 'rampartlaw13.TableKeeps', WHERE WHAT IT READS IS OF BULK AT MOST 1048576: true; the input reads as it did. -/
def tableKeepsUptoRow : OpenClaim := { program := "ytnjbclcihhaddaa", sum := "e9c4fa5be81b9f69e77ed4b665375a9a3264f77cc5b14eff0ddecfc2f02194f9", func := "rampart/rampartlaw13.TableKeeps", spec := "tableKeeps", apart := false, narrowed := true }
def TableKeepsUptoSaid : Prop := tableKeepsUptoRow.holds Try.pinned (OpenSpec.upto tableKeepsSpec)

/-- 'rampartlaw13.TableFills', WHERE WHAT IT READS IS OF BULK AT MOST 1048576: true; the input reads as it did. -/
def tableFillsUptoRow : OpenClaim := { program := "ytnjbclcihhaddaa", sum := "e9c4fa5be81b9f69e77ed4b665375a9a3264f77cc5b14eff0ddecfc2f02194f9", func := "rampart/rampartlaw13.TableFills", spec := "tableFills", apart := false, narrowed := true }
def TableFillsUptoSaid : Prop := tableFillsUptoRow.holds Try.pinned (OpenSpec.upto tableFillsSpec)

/-- 'rampartlaw13.TableSame', WHERE WHAT IT READS IS OF BULK AT MOST 1048576: true; the input reads as it did. -/
def tableSameUptoRow : OpenClaim := { program := "ytnjbclcihhaddaa", sum := "e9c4fa5be81b9f69e77ed4b665375a9a3264f77cc5b14eff0ddecfc2f02194f9", func := "rampart/rampartlaw13.TableSame", spec := "tableSame", apart := false, narrowed := true }
def TableSameUptoSaid : Prop := tableSameUptoRow.holds Try.pinned (OpenSpec.upto tableSameSpec)

/-- 'rampartlaw13.TablePlays', WHERE WHAT IT READS IS OF BULK AT MOST 1048576: true; the input reads as it did. -/
def tablePlaysUptoRow : OpenClaim := { program := "ytnjbclcihhaddaa", sum := "e9c4fa5be81b9f69e77ed4b665375a9a3264f77cc5b14eff0ddecfc2f02194f9", func := "rampart/rampartlaw13.TablePlays", spec := "tablePlays", apart := false, narrowed := true }
def TablePlaysUptoSaid : Prop := tablePlaysUptoRow.holds Try.pinned (OpenSpec.upto tablePlaysSpec)

/-- 'rampartlaw13.TableNil', WHERE WHAT IT READS IS OF BULK AT MOST 1048576: true; the input reads as it did. -/
def tableNilUptoRow : OpenClaim := { program := "ytnjbclcihhaddaa", sum := "e9c4fa5be81b9f69e77ed4b665375a9a3264f77cc5b14eff0ddecfc2f02194f9", func := "rampart/rampartlaw13.TableNil", spec := "tableNil", apart := false, narrowed := true }
def TableNilUptoSaid : Prop := tableNilUptoRow.holds Try.pinned (OpenSpec.upto tableNilSpec)

/-- 'rampartlaw15.FlowsTime', WHERE WHAT IT READS IS OF BULK AT MOST 1048576: true; the input reads as it did. -/
def flowsTimeUptoRow : OpenClaim := { program := "ytnjbclcihhaddaa", sum := "e9c4fa5be81b9f69e77ed4b665375a9a3264f77cc5b14eff0ddecfc2f02194f9", func := "rampart/rampartlaw15.FlowsTime", spec := "flowsTime", apart := false, narrowed := true }
def FlowsTimeUptoSaid : Prop := flowsTimeUptoRow.holds Try.pinned (OpenSpec.upto flowsTimeSpec)

/-- 'rampartlaw15.FlowsEvict', WHERE WHAT IT READS IS OF BULK AT MOST 1048576: true; the input reads as it did. -/
def flowsEvictUptoRow : OpenClaim := { program := "ytnjbclcihhaddaa", sum := "e9c4fa5be81b9f69e77ed4b665375a9a3264f77cc5b14eff0ddecfc2f02194f9", func := "rampart/rampartlaw15.FlowsEvict", spec := "flowsEvict", apart := false, narrowed := true }
def FlowsEvictUptoSaid : Prop := flowsEvictUptoRow.holds Try.pinned (OpenSpec.upto flowsEvictSpec)

/-- 'rampartlaw15.FlowsPlays', WHERE WHAT IT READS IS OF BULK AT MOST 1048576: true; the input reads as it did. -/
def flowsPlaysUptoRow : OpenClaim := { program := "ytnjbclcihhaddaa", sum := "e9c4fa5be81b9f69e77ed4b665375a9a3264f77cc5b14eff0ddecfc2f02194f9", func := "rampart/rampartlaw15.FlowsPlays", spec := "flowsPlays", apart := false, narrowed := true }
def FlowsPlaysUptoSaid : Prop := flowsPlaysUptoRow.holds Try.pinned (OpenSpec.upto flowsPlaysSpec)

/-- 'rampartlaw15.FlowsSure', WHERE WHAT IT READS IS OF BULK AT MOST 1048576: true; the input reads as it did. -/
def flowsSureUptoRow : OpenClaim := { program := "ytnjbclcihhaddaa", sum := "e9c4fa5be81b9f69e77ed4b665375a9a3264f77cc5b14eff0ddecfc2f02194f9", func := "rampart/rampartlaw15.FlowsSure", spec := "flowsSure", apart := false, narrowed := true }
def FlowsSureUptoSaid : Prop := flowsSureUptoRow.holds Try.pinned (OpenSpec.upto flowsSureSpec)

/-- 'rampartlaw15.FlowsNil', WHERE WHAT IT READS IS OF BULK AT MOST 1048576: true; the input reads as it did. -/
def flowsNilUptoRow : OpenClaim := { program := "ytnjbclcihhaddaa", sum := "e9c4fa5be81b9f69e77ed4b665375a9a3264f77cc5b14eff0ddecfc2f02194f9", func := "rampart/rampartlaw15.FlowsNil", spec := "flowsNil", apart := false, narrowed := true }
def FlowsNilUptoSaid : Prop := flowsNilUptoRow.holds Try.pinned (OpenSpec.upto flowsNilSpec)

end Rows
end Go.Proofs.Ytnjbclcihhaddaa
