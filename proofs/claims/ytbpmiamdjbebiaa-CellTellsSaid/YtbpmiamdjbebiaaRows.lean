/-
  No cell of these rows narrows 'for every input' (looked for: loops, veiled, ifaces, maps, wideKeys, modest, calm, conditions, laid).
  DERIVED. THE GIVEN ROWS OF THIS SEAT. 5 by the template 'for every input the law returns true; each argument reads behind the call as it read before'; 0 by the template 'total and deterministic' (their statements: YtbpmiamdjbebiaaTotals.lean).
  GIVEN WITH THE SEED: the statements are not yours to turn. If you find one false, say at which input.
  Laid BY PROGRAM, IN A SANDBOX (cutbox-rows.mjs): the forced cells as the released guide's own fill.sh prints them over the translation c7dbc37898e9535c… (all of the seat's roots in one cut). By AI agents, Wed Nov 11 2026. No macro, syntax, notation, axiom, sorry.
-/
import Derived.Test.YtbpmiamdjbebiaaChecked
import GoSem.Claim
import GoSem.ClaimJoined
import GoSem.ClaimMapViews
import Derived.JoinedTies
import Derived.KernelRfl
namespace Go.Proofs.Ytbpmiamdjbebiaa
/- THE CELL 'sum', in the pinned program and in every row, IS THE sha256 OF THE DUMP (.gsa) THAT YtbpmiamdjbebiaaProg.lean LOADS. Nothing in Lean hashes anything: it is a label: what it is worth is what the hold of that sum in a sandbox is worth. -/
noncomputable def Try.pinned : Pinned := { name := "ytbpmiamdjbebiaa", sum := "c7dbc37898e9535c72023c0ed544ce102771f28b5b1ba77def05f30b325eac8b", checked := Try.checked }
namespace Rows
def none {H : Type} : Left H := { results := [], args := [] }

/-- 'rampartlaw01.CellTells': WHATEVER THE INPUT: true; the input reads as it did. -/
def cellTellsSpec : ChangeSpec := { name := "cellTells", fn := fun _ => fun
  | [d1, d2, d3] => { results := [.lit (.bool true)], args := [d1, d2, d3] }
  | _ => none }
def cellTellsRow : OpenClaim := { program := "ytbpmiamdjbebiaa", sum := "c7dbc37898e9535c72023c0ed544ce102771f28b5b1ba77def05f30b325eac8b", func := "rampart/rampartlaw01.CellTells", spec := "cellTells", apart := false }
def CellTellsSaid : Prop := cellTellsRow.holds Try.pinned (OpenSpec.ofChange cellTellsSpec)

/-- ITS FALSE NEIGHBOUR: 'it returns false'. Refute it at one input. -/
def cellTellsWrong : ChangeSpec := { name := "cellTells", fn := fun _ => fun
  | [d1, d2, d3] => { results := [.lit (.bool false)], args := [d1, d2, d3] }
  | _ => none }
def CellTellsWrongFalsely : Prop := cellTellsRow.holds Try.pinned (OpenSpec.ofChange cellTellsWrong)

/-- 'rampartlaw01.CellHex': WHATEVER THE INPUT: true; the input reads as it did. -/
def cellHexSpec : ChangeSpec := { name := "cellHex", fn := fun _ => fun
  | [d] => { results := [.lit (.bool true)], args := [d] }
  | _ => none }
def cellHexRow : OpenClaim := { program := "ytbpmiamdjbebiaa", sum := "c7dbc37898e9535c72023c0ed544ce102771f28b5b1ba77def05f30b325eac8b", func := "rampart/rampartlaw01.CellHex", spec := "cellHex", apart := false }
def CellHexSaid : Prop := cellHexRow.holds Try.pinned (OpenSpec.ofChange cellHexSpec)

/-- ITS FALSE NEIGHBOUR: 'it returns false'. Refute it at one input. -/
def cellHexWrong : ChangeSpec := { name := "cellHex", fn := fun _ => fun
  | [d] => { results := [.lit (.bool false)], args := [d] }
  | _ => none }
def CellHexWrongFalsely : Prop := cellHexRow.holds Try.pinned (OpenSpec.ofChange cellHexWrong)

/-- 'rampartlaw01.CellBack': WHATEVER THE INPUT: true; the input reads as it did. -/
def cellBackSpec : ChangeSpec := { name := "cellBack", fn := fun _ => fun
  | [d1, d2, d3] => { results := [.lit (.bool true)], args := [d1, d2, d3] }
  | _ => none }
def cellBackRow : OpenClaim := { program := "ytbpmiamdjbebiaa", sum := "c7dbc37898e9535c72023c0ed544ce102771f28b5b1ba77def05f30b325eac8b", func := "rampart/rampartlaw01.CellBack", spec := "cellBack", apart := false }
def CellBackSaid : Prop := cellBackRow.holds Try.pinned (OpenSpec.ofChange cellBackSpec)

/-- ITS FALSE NEIGHBOUR: 'it returns false'. Refute it at one input. -/
def cellBackWrong : ChangeSpec := { name := "cellBack", fn := fun _ => fun
  | [d1, d2, d3] => { results := [.lit (.bool false)], args := [d1, d2, d3] }
  | _ => none }
def CellBackWrongFalsely : Prop := cellBackRow.holds Try.pinned (OpenSpec.ofChange cellBackWrong)

/-- 'rampartlaw01.CellBits': WHATEVER THE INPUT: true; the input reads as it did. -/
def cellBitsSpec : ChangeSpec := { name := "cellBits", fn := fun _ => fun
  | [d1, d2] => { results := [.lit (.bool true)], args := [d1, d2] }
  | _ => none }
def cellBitsRow : OpenClaim := { program := "ytbpmiamdjbebiaa", sum := "c7dbc37898e9535c72023c0ed544ce102771f28b5b1ba77def05f30b325eac8b", func := "rampart/rampartlaw01.CellBits", spec := "cellBits", apart := false }
def CellBitsSaid : Prop := cellBitsRow.holds Try.pinned (OpenSpec.ofChange cellBitsSpec)

/-- ITS FALSE NEIGHBOUR: 'it returns false'. Refute it at one input. -/
def cellBitsWrong : ChangeSpec := { name := "cellBits", fn := fun _ => fun
  | [d1, d2] => { results := [.lit (.bool false)], args := [d1, d2] }
  | _ => none }
def CellBitsWrongFalsely : Prop := cellBitsRow.holds Try.pinned (OpenSpec.ofChange cellBitsWrong)

/-- 'rampartlaw01.CellSets': WHATEVER THE INPUT: true; the input reads as it did. -/
def cellSetsSpec : ChangeSpec := { name := "cellSets", fn := fun _ => fun
  | [d1, d2, d3] => { results := [.lit (.bool true)], args := [d1, d2, d3] }
  | _ => none }
def cellSetsRow : OpenClaim := { program := "ytbpmiamdjbebiaa", sum := "c7dbc37898e9535c72023c0ed544ce102771f28b5b1ba77def05f30b325eac8b", func := "rampart/rampartlaw01.CellSets", spec := "cellSets", apart := false }
def CellSetsSaid : Prop := cellSetsRow.holds Try.pinned (OpenSpec.ofChange cellSetsSpec)

/-- ITS FALSE NEIGHBOUR: 'it returns false'. Refute it at one input. -/
def cellSetsWrong : ChangeSpec := { name := "cellSets", fn := fun _ => fun
  | [d1, d2, d3] => { results := [.lit (.bool false)], args := [d1, d2, d3] }
  | _ => none }
def CellSetsWrongFalsely : Prop := cellSetsRow.holds Try.pinned (OpenSpec.ofChange cellSetsWrong)

/- THE SECOND FORM. 'bulk': how many values and letters a reading holds, each counted each time it is reached (what is shared counts as often as it is met; a slice's spare places count too). A statement '..UptoSaid' is the law's where the arguments, and the package variables that the reading takes, are together of bulk at most 1048576: NARROWER than '..Said'. Prove '..Said' where nothing that the law and all that it calls make is longer than what came in: it says more and counts as full. Else prove '..UptoSaid'. A law counts once. -/
mutual
def uptoBulk {H : Type} : DataW H → Nat
  | .lit (.string bytes) => bytes.length + 1
  | .lit _ => 1
  | .nil => 1
  | .ptr d => uptoBulk d + 1
  | .slice elems spare => uptoBulkAll elems + uptoBulkAll spare + 1
  | .agg parts => uptoBulkAll parts + 1
  | .iface _ d => uptoBulk d + 1
  | .map entries => uptoBulkEntries entries + 1
  | .held _ => 1
def uptoBulkAll {H : Type} : List (DataW H) → Nat
  | [] => 0
  | d :: r => uptoBulk d + uptoBulkAll r
def uptoBulkEntries {H : Type} : List (Lit × DataW H) → Nat
  | [] => 0
  | x :: r => uptoBulkEntry x + uptoBulkEntries r
def uptoBulkEntry {H : Type} : Lit × DataW H → Nat
  | (.string bytes, d) => bytes.length + uptoBulk d + 1
  | (_, d) => uptoBulk d + 1
 end
def uptoSmall : (H : Type) → List (DataW H) → Bool := fun _ ds => decide (uptoBulkAll ds ≤ 1048576)
def OpenSpec.upto (s : _root_.Go.ChangeSpec) : _root_.Go.OpenSpec := { _root_.Go.OpenSpec.ofChange s with cond := some uptoSmall }

/-- 'rampartlaw01.CellTells', WHERE WHAT IT READS IS OF BULK AT MOST 1048576: true; the input reads as it did. -/
def cellTellsUptoRow : OpenClaim := { program := "ytbpmiamdjbebiaa", sum := "c7dbc37898e9535c72023c0ed544ce102771f28b5b1ba77def05f30b325eac8b", func := "rampart/rampartlaw01.CellTells", spec := "cellTells", apart := false, narrowed := true }
def CellTellsUptoSaid : Prop := cellTellsUptoRow.holds Try.pinned (OpenSpec.upto cellTellsSpec)

/-- 'rampartlaw01.CellHex', WHERE WHAT IT READS IS OF BULK AT MOST 1048576: true; the input reads as it did. -/
def cellHexUptoRow : OpenClaim := { program := "ytbpmiamdjbebiaa", sum := "c7dbc37898e9535c72023c0ed544ce102771f28b5b1ba77def05f30b325eac8b", func := "rampart/rampartlaw01.CellHex", spec := "cellHex", apart := false, narrowed := true }
def CellHexUptoSaid : Prop := cellHexUptoRow.holds Try.pinned (OpenSpec.upto cellHexSpec)

/-- 'rampartlaw01.CellBack', WHERE WHAT IT READS IS OF BULK AT MOST 1048576: true; the input reads as it did. -/
def cellBackUptoRow : OpenClaim := { program := "ytbpmiamdjbebiaa", sum := "c7dbc37898e9535c72023c0ed544ce102771f28b5b1ba77def05f30b325eac8b", func := "rampart/rampartlaw01.CellBack", spec := "cellBack", apart := false, narrowed := true }
def CellBackUptoSaid : Prop := cellBackUptoRow.holds Try.pinned (OpenSpec.upto cellBackSpec)

/-- 'rampartlaw01.CellBits', WHERE WHAT IT READS IS OF BULK AT MOST 1048576: true; the input reads as it did. -/
def cellBitsUptoRow : OpenClaim := { program := "ytbpmiamdjbebiaa", sum := "c7dbc37898e9535c72023c0ed544ce102771f28b5b1ba77def05f30b325eac8b", func := "rampart/rampartlaw01.CellBits", spec := "cellBits", apart := false, narrowed := true }
def CellBitsUptoSaid : Prop := cellBitsUptoRow.holds Try.pinned (OpenSpec.upto cellBitsSpec)

/-- 'rampartlaw01.CellSets', WHERE WHAT IT READS IS OF BULK AT MOST 1048576: true; the input reads as it did. -/
def cellSetsUptoRow : OpenClaim := { program := "ytbpmiamdjbebiaa", sum := "c7dbc37898e9535c72023c0ed544ce102771f28b5b1ba77def05f30b325eac8b", func := "rampart/rampartlaw01.CellSets", spec := "cellSets", apart := false, narrowed := true }
def CellSetsUptoSaid : Prop := cellSetsUptoRow.holds Try.pinned (OpenSpec.upto cellSetsSpec)

end Rows
end Go.Proofs.Ytbpmiamdjbebiaa
