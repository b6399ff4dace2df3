/-
  No cell of these rows narrows 'for every input' (looked for: loops, veiled, ifaces, maps, wideKeys, modest, calm, conditions, laid).
  DERIVED. THE GIVEN ROWS OF THIS SEAT. 12 by the template 'for every input the law returns true; each argument reads behind the call as it read before'; 0 by the template 'total and deterministic' (their statements: YtdjknicjnaiomaaTotals.lean).
  GIVEN WITH THE SEED: the statements are not yours to turn. If you find one false, say at which input.
  Laid BY PROGRAM, IN A SANDBOX (cutbox-rows.mjs): the forced cells as the released guide's own fill.sh prints them over the translation cd5cf590852ad633… (all of the seat's roots in one cut). By AI agents, Wed Nov 11 2026. No macro, syntax, notation, axiom, sorry.
-/
import Derived.Test.YtdjknicjnaiomaaChecked
import GoSem.Claim
import GoSem.ClaimJoined
import GoSem.ClaimMapViews
import Derived.JoinedTies
import Derived.KernelRfl
namespace Go.Proofs.Ytdjknicjnaiomaa
/- THE CELL 'sum', in the pinned program and in every row, IS THE sha256 OF THE DUMP (.gsa) THAT YtdjknicjnaiomaaProg.lean LOADS. Nothing in Lean hashes anything: it is a label: what it is worth is what the hold of that sum in a sandbox is worth. -/
noncomputable def Try.pinned : Pinned := { name := "ytdjknicjnaiomaa", sum := "cd5cf590852ad633aa17cd25f94f7099a9ed64fb1aadc1986ced5f1b2e961ab1", checked := Try.checked }
namespace Rows
def none {H : Type} : Left H := { results := [], args := [] }

/-- 'garnerlaw05.CellPuts': WHATEVER THE INPUT: true; the input reads as it did. -/
def cellPutsSpec : ChangeSpec := { name := "cellPuts", fn := fun _ => fun
  | [d1, d2] => { results := [.lit (.bool true)], args := [d1, d2] }
  | _ => none }
def cellPutsRow : OpenClaim := { program := "ytdjknicjnaiomaa", sum := "cd5cf590852ad633aa17cd25f94f7099a9ed64fb1aadc1986ced5f1b2e961ab1", func := "garner/garnerlaw05.CellPuts", spec := "cellPuts", recurses := true, apart := false }
def CellPutsSaid : Prop := cellPutsRow.holds Try.pinned (OpenSpec.ofChange cellPutsSpec)

/-- ITS FALSE NEIGHBOUR: 'it returns false'. Refute it at one input. -/
def cellPutsWrong : ChangeSpec := { name := "cellPuts", fn := fun _ => fun
  | [d1, d2] => { results := [.lit (.bool false)], args := [d1, d2] }
  | _ => none }
def CellPutsWrongFalsely : Prop := cellPutsRow.holds Try.pinned (OpenSpec.ofChange cellPutsWrong)

/-- 'garnerlaw05.CellHolds': WHATEVER THE INPUT: true; the input reads as it did. -/
def cellHoldsSpec : ChangeSpec := { name := "cellHolds", fn := fun _ => fun
  | [d1, d2, d3] => { results := [.lit (.bool true)], args := [d1, d2, d3] }
  | _ => none }
def cellHoldsRow : OpenClaim := { program := "ytdjknicjnaiomaa", sum := "cd5cf590852ad633aa17cd25f94f7099a9ed64fb1aadc1986ced5f1b2e961ab1", func := "garner/garnerlaw05.CellHolds", spec := "cellHolds", apart := false }
def CellHoldsSaid : Prop := cellHoldsRow.holds Try.pinned (OpenSpec.ofChange cellHoldsSpec)

/-- ITS FALSE NEIGHBOUR: 'it returns false'. Refute it at one input. -/
def cellHoldsWrong : ChangeSpec := { name := "cellHolds", fn := fun _ => fun
  | [d1, d2, d3] => { results := [.lit (.bool false)], args := [d1, d2, d3] }
  | _ => none }
def CellHoldsWrongFalsely : Prop := cellHoldsRow.holds Try.pinned (OpenSpec.ofChange cellHoldsWrong)

/-- 'garnerlaw12.BlockPuts': WHATEVER THE INPUT: true; the input reads as it did. -/
def blockPutsSpec : ChangeSpec := { name := "blockPuts", fn := fun _ => fun
  | [d1, d2, d3] => { results := [.lit (.bool true)], args := [d1, d2, d3] }
  | _ => none }
def blockPutsRow : OpenClaim := { program := "ytdjknicjnaiomaa", sum := "cd5cf590852ad633aa17cd25f94f7099a9ed64fb1aadc1986ced5f1b2e961ab1", func := "garner/garnerlaw12.BlockPuts", spec := "blockPuts", recurses := true, apart := false }
def BlockPutsSaid : Prop := blockPutsRow.holds Try.pinned (OpenSpec.ofChange blockPutsSpec)

/-- ITS FALSE NEIGHBOUR: 'it returns false'. Refute it at one input. -/
def blockPutsWrong : ChangeSpec := { name := "blockPuts", fn := fun _ => fun
  | [d1, d2, d3] => { results := [.lit (.bool false)], args := [d1, d2, d3] }
  | _ => none }
def BlockPutsWrongFalsely : Prop := blockPutsRow.holds Try.pinned (OpenSpec.ofChange blockPutsWrong)

/-- 'garnerlaw16.EditPuts': WHATEVER THE INPUT: true; the input reads as it did. -/
def editPutsSpec : ChangeSpec := { name := "editPuts", fn := fun _ => fun
  | [d1, d2] => { results := [.lit (.bool true)], args := [d1, d2] }
  | _ => none }
def editPutsRow : OpenClaim := { program := "ytdjknicjnaiomaa", sum := "cd5cf590852ad633aa17cd25f94f7099a9ed64fb1aadc1986ced5f1b2e961ab1", func := "garner/garnerlaw16.EditPuts", spec := "editPuts", unfollowed := true, recurses := true, apart := false }
def EditPutsSaid : Prop := editPutsRow.holds Try.pinned (OpenSpec.ofChange editPutsSpec)

/-- ITS FALSE NEIGHBOUR: 'it returns false'. Refute it at one input. -/
def editPutsWrong : ChangeSpec := { name := "editPuts", fn := fun _ => fun
  | [d1, d2] => { results := [.lit (.bool false)], args := [d1, d2] }
  | _ => none }
def EditPutsWrongFalsely : Prop := editPutsRow.holds Try.pinned (OpenSpec.ofChange editPutsWrong)

/-- 'garnerlaw05.CellGets': WHATEVER THE INPUT: true; the input reads as it did. -/
def cellGetsSpec : ChangeSpec := { name := "cellGets", fn := fun _ => fun
  | [d] => { results := [.lit (.bool true)], args := [d] }
  | _ => none }
def cellGetsRow : OpenClaim := { program := "ytdjknicjnaiomaa", sum := "cd5cf590852ad633aa17cd25f94f7099a9ed64fb1aadc1986ced5f1b2e961ab1", func := "garner/garnerlaw05.CellGets", spec := "cellGets", recurses := true, apart := false }
def CellGetsSaid : Prop := cellGetsRow.holds Try.pinned (OpenSpec.ofChange cellGetsSpec)

/-- ITS FALSE NEIGHBOUR: 'it returns false'. Refute it at one input. -/
def cellGetsWrong : ChangeSpec := { name := "cellGets", fn := fun _ => fun
  | [d] => { results := [.lit (.bool false)], args := [d] }
  | _ => none }
def CellGetsWrongFalsely : Prop := cellGetsRow.holds Try.pinned (OpenSpec.ofChange cellGetsWrong)

/-- 'garnerlaw05.CellReads': WHATEVER THE INPUT: true; the input reads as it did. -/
def cellReadsSpec : ChangeSpec := { name := "cellReads", fn := fun _ => fun
  | [d1, d2] => { results := [.lit (.bool true)], args := [d1, d2] }
  | _ => none }
def cellReadsRow : OpenClaim := { program := "ytdjknicjnaiomaa", sum := "cd5cf590852ad633aa17cd25f94f7099a9ed64fb1aadc1986ced5f1b2e961ab1", func := "garner/garnerlaw05.CellReads", spec := "cellReads", apart := false }
def CellReadsSaid : Prop := cellReadsRow.holds Try.pinned (OpenSpec.ofChange cellReadsSpec)

/-- ITS FALSE NEIGHBOUR: 'it returns false'. Refute it at one input. -/
def cellReadsWrong : ChangeSpec := { name := "cellReads", fn := fun _ => fun
  | [d1, d2] => { results := [.lit (.bool false)], args := [d1, d2] }
  | _ => none }
def CellReadsWrongFalsely : Prop := cellReadsRow.holds Try.pinned (OpenSpec.ofChange cellReadsWrong)

/-- 'garnerlaw16.EditGets': WHATEVER THE INPUT: true; the input reads as it did. -/
def editGetsSpec : ChangeSpec := { name := "editGets", fn := fun _ => fun
  | [d] => { results := [.lit (.bool true)], args := [d] }
  | _ => none }
def editGetsRow : OpenClaim := { program := "ytdjknicjnaiomaa", sum := "cd5cf590852ad633aa17cd25f94f7099a9ed64fb1aadc1986ced5f1b2e961ab1", func := "garner/garnerlaw16.EditGets", spec := "editGets", unfollowed := true, recurses := true, apart := false }
def EditGetsSaid : Prop := editGetsRow.holds Try.pinned (OpenSpec.ofChange editGetsSpec)

/-- ITS FALSE NEIGHBOUR: 'it returns false'. Refute it at one input. -/
def editGetsWrong : ChangeSpec := { name := "editGets", fn := fun _ => fun
  | [d] => { results := [.lit (.bool false)], args := [d] }
  | _ => none }
def EditGetsWrongFalsely : Prop := editGetsRow.holds Try.pinned (OpenSpec.ofChange editGetsWrong)

/-- 'garnerlaw16.EditReads': WHATEVER THE INPUT: true; the input reads as it did. -/
def editReadsSpec : ChangeSpec := { name := "editReads", fn := fun _ => fun
  | [d1, d2] => { results := [.lit (.bool true)], args := [d1, d2] }
  | _ => none }
def editReadsRow : OpenClaim := { program := "ytdjknicjnaiomaa", sum := "cd5cf590852ad633aa17cd25f94f7099a9ed64fb1aadc1986ced5f1b2e961ab1", func := "garner/garnerlaw16.EditReads", spec := "editReads", unfollowed := true, recurses := true, apart := false }
def EditReadsSaid : Prop := editReadsRow.holds Try.pinned (OpenSpec.ofChange editReadsSpec)

/-- ITS FALSE NEIGHBOUR: 'it returns false'. Refute it at one input. -/
def editReadsWrong : ChangeSpec := { name := "editReads", fn := fun _ => fun
  | [d1, d2] => { results := [.lit (.bool false)], args := [d1, d2] }
  | _ => none }
def EditReadsWrongFalsely : Prop := editReadsRow.holds Try.pinned (OpenSpec.ofChange editReadsWrong)

/-- 'garnerlaw12.BlockGets': WHATEVER THE INPUT: true; the input reads as it did. -/
def blockGetsSpec : ChangeSpec := { name := "blockGets", fn := fun _ => fun
  | [d1, d2] => { results := [.lit (.bool true)], args := [d1, d2] }
  | _ => none }
def blockGetsRow : OpenClaim := { program := "ytdjknicjnaiomaa", sum := "cd5cf590852ad633aa17cd25f94f7099a9ed64fb1aadc1986ced5f1b2e961ab1", func := "garner/garnerlaw12.BlockGets", spec := "blockGets", unfollowed := true, recurses := true, apart := false }
def BlockGetsSaid : Prop := blockGetsRow.holds Try.pinned (OpenSpec.ofChange blockGetsSpec)

/-- ITS FALSE NEIGHBOUR: 'it returns false'. Refute it at one input. -/
def blockGetsWrong : ChangeSpec := { name := "blockGets", fn := fun _ => fun
  | [d1, d2] => { results := [.lit (.bool false)], args := [d1, d2] }
  | _ => none }
def BlockGetsWrongFalsely : Prop := blockGetsRow.holds Try.pinned (OpenSpec.ofChange blockGetsWrong)

/-- 'garnerlaw12.BlockReads': WHATEVER THE INPUT: true; the input reads as it did. -/
def blockReadsSpec : ChangeSpec := { name := "blockReads", fn := fun _ => fun
  | [d1, d2] => { results := [.lit (.bool true)], args := [d1, d2] }
  | _ => none }
def blockReadsRow : OpenClaim := { program := "ytdjknicjnaiomaa", sum := "cd5cf590852ad633aa17cd25f94f7099a9ed64fb1aadc1986ced5f1b2e961ab1", func := "garner/garnerlaw12.BlockReads", spec := "blockReads", unfollowed := true, recurses := true, apart := false }
def BlockReadsSaid : Prop := blockReadsRow.holds Try.pinned (OpenSpec.ofChange blockReadsSpec)

/-- ITS FALSE NEIGHBOUR: 'it returns false'. Refute it at one input. -/
def blockReadsWrong : ChangeSpec := { name := "blockReads", fn := fun _ => fun
  | [d1, d2] => { results := [.lit (.bool false)], args := [d1, d2] }
  | _ => none }
def BlockReadsWrongFalsely : Prop := blockReadsRow.holds Try.pinned (OpenSpec.ofChange blockReadsWrong)

/-- 'garnerlaw15.LevelMerges': WHATEVER THE INPUT: true; the input reads as it did. -/
def levelMergesSpec : ChangeSpec := { name := "levelMerges", fn := fun _ => fun
  | [d1, d2, d3] => { results := [.lit (.bool true)], args := [d1, d2, d3] }
  | _ => none }
def levelMergesRow : OpenClaim := { program := "ytdjknicjnaiomaa", sum := "cd5cf590852ad633aa17cd25f94f7099a9ed64fb1aadc1986ced5f1b2e961ab1", func := "garner/garnerlaw15.LevelMerges", spec := "levelMerges", inPlace := ["internal/bytealg.abigen_runtime_cmpstring"], unfollowed := true, recurses := true, apart := false }
def LevelMergesSaid : Prop := levelMergesRow.holds Try.pinned (OpenSpec.ofChange levelMergesSpec)

/-- ITS FALSE NEIGHBOUR: 'it returns false'. Refute it at one input. -/
def levelMergesWrong : ChangeSpec := { name := "levelMerges", fn := fun _ => fun
  | [d1, d2, d3] => { results := [.lit (.bool false)], args := [d1, d2, d3] }
  | _ => none }
def LevelMergesWrongFalsely : Prop := levelMergesRow.holds Try.pinned (OpenSpec.ofChange levelMergesWrong)

/-- 'garnerlaw15.LevelPicks': WHATEVER THE INPUT: true; the input reads as it did. -/
def levelPicksSpec : ChangeSpec := { name := "levelPicks", fn := fun _ => fun
  | [d1, d2] => { results := [.lit (.bool true)], args := [d1, d2] }
  | _ => none }
def levelPicksRow : OpenClaim := { program := "ytdjknicjnaiomaa", sum := "cd5cf590852ad633aa17cd25f94f7099a9ed64fb1aadc1986ced5f1b2e961ab1", func := "garner/garnerlaw15.LevelPicks", spec := "levelPicks", inPlace := ["internal/bytealg.abigen_runtime_cmpstring"], unfollowed := true, recurses := true, apart := false }
def LevelPicksSaid : Prop := levelPicksRow.holds Try.pinned (OpenSpec.ofChange levelPicksSpec)

/-- ITS FALSE NEIGHBOUR: 'it returns false'. Refute it at one input. -/
def levelPicksWrong : ChangeSpec := { name := "levelPicks", fn := fun _ => fun
  | [d1, d2] => { results := [.lit (.bool false)], args := [d1, d2] }
  | _ => none }
def LevelPicksWrongFalsely : Prop := levelPicksRow.holds Try.pinned (OpenSpec.ofChange levelPicksWrong)

/- THE SECOND FORM. 'bulk': how many values and letters a reading holds, each counted each time it is reached (what is shared counts as often as it is met; a slice's spare places count too). A statement '..UptoSaid' is the law's where the arguments, and the package variables that the reading takes, are together of bulk at most 1048576: NARROWER than '..Said'. Prove '..Said' where nothing that the law and all that it calls make is longer than what came in: it says more and counts as full. Else prove '..UptoSaid'. A law counts once. -/
mutual
def uptoBulk {H : Type} : DataW H → Nat
  | .lit (.string bytes) => bytes.length + 1
  | .lit _ => 1
  | .nil => 1
  | .ptr d => uptoBulk d + 1
  | .slice elems spare => uptoBulkAll elems + uptoBulkAll spare + 1
  | .agg parts => uptoBulkAll parts + 1
  | .iface _ d => uptoBulk d + 1
  | .map entries => uptoBulkEntries entries + 1
  | .held _ => 1
def uptoBulkAll {H : Type} : List (DataW H) → Nat
  | [] => 0
  | d :: r => uptoBulk d + uptoBulkAll r
def uptoBulkEntries {H : Type} : List (Lit × DataW H) → Nat
  | [] => 0
  | x :: r => uptoBulkEntry x + uptoBulkEntries r
def uptoBulkEntry {H : Type} : Lit × DataW H → Nat
  | (.string bytes, d) => bytes.length + uptoBulk d + 1
  | (_, d) => uptoBulk d + 1
 end
def uptoSmall : (H : Type) → List (DataW H) → Bool := fun _ ds => decide (uptoBulkAll ds ≤ 1048576)
def OpenSpec.upto (s : _root_.Go.ChangeSpec) : _root_.Go.OpenSpec := { _root_.Go.OpenSpec.ofChange s with cond := some uptoSmall }

/-- 'garnerlaw05.CellPuts', WHERE WHAT IT READS IS OF BULK AT MOST 1048576: true; the input reads as it did. -/
def cellPutsUptoRow : OpenClaim := { program := "ytdjknicjnaiomaa", sum := "cd5cf590852ad633aa17cd25f94f7099a9ed64fb1aadc1986ced5f1b2e961ab1", func := "garner/garnerlaw05.CellPuts", spec := "cellPuts", recurses := true, apart := false, narrowed := true }
def CellPutsUptoSaid : Prop := cellPutsUptoRow.holds Try.pinned (OpenSpec.upto cellPutsSpec)

/-- 'garnerlaw05.CellHolds', WHERE WHAT IT READS IS OF BULK AT MOST 1048576: true; the input reads as it did. -/
def cellHoldsUptoRow : OpenClaim := { program := "ytdjknicjnaiomaa", sum := "cd5cf590852ad633aa17cd25f94f7099a9ed64fb1aadc1986ced5f1b2e961ab1", func := "garner/garnerlaw05.CellHolds", spec := "cellHolds", apart := false, narrowed := true }
def CellHoldsUptoSaid : Prop := cellHoldsUptoRow.holds Try.pinned (OpenSpec.upto cellHoldsSpec)

/-- 'garnerlaw12.BlockPuts', WHERE WHAT IT READS IS OF BULK AT MOST 1048576: true; the input reads as it did. -/
def blockPutsUptoRow : OpenClaim := { program := "ytdjknicjnaiomaa", sum := "cd5cf590852ad633aa17cd25f94f7099a9ed64fb1aadc1986ced5f1b2e961ab1", func := "garner/garnerlaw12.BlockPuts", spec := "blockPuts", recurses := true, apart := false, narrowed := true }
def BlockPutsUptoSaid : Prop := blockPutsUptoRow.holds Try.pinned (OpenSpec.upto blockPutsSpec)

/-- 'garnerlaw16.EditPuts', WHERE WHAT IT READS IS OF BULK AT MOST 1048576: true; the input reads as it did. -/
def editPutsUptoRow : OpenClaim := { program := "ytdjknicjnaiomaa", sum := "cd5cf590852ad633aa17cd25f94f7099a9ed64fb1aadc1986ced5f1b2e961ab1", func := "garner/garnerlaw16.EditPuts", spec := "editPuts", unfollowed := true, recurses := true, apart := false, narrowed := true }
def EditPutsUptoSaid : Prop := editPutsUptoRow.holds Try.pinned (OpenSpec.upto editPutsSpec)

/-- 'garnerlaw05.CellGets', WHERE WHAT IT READS IS OF BULK AT MOST 1048576: true; the input reads as it did. -/
def cellGetsUptoRow : OpenClaim := { program := "ytdjknicjnaiomaa", sum := "cd5cf590852ad633aa17cd25f94f7099a9ed64fb1aadc1986ced5f1b2e961ab1", func := "garner/garnerlaw05.CellGets", spec := "cellGets", recurses := true, apart := false, narrowed := true }
def CellGetsUptoSaid : Prop := cellGetsUptoRow.holds Try.pinned (OpenSpec.upto cellGetsSpec)

/-- 'garnerlaw05.CellReads', WHERE WHAT IT READS IS OF BULK AT MOST 1048576: true; the input reads as it did. -/
def cellReadsUptoRow : OpenClaim := { program := "ytdjknicjnaiomaa", sum := "cd5cf590852ad633aa17cd25f94f7099a9ed64fb1aadc1986ced5f1b2e961ab1", func := "garner/garnerlaw05.CellReads", spec := "cellReads", apart := false, narrowed := true }
def CellReadsUptoSaid : Prop := cellReadsUptoRow.holds Try.pinned (OpenSpec.upto cellReadsSpec)

/-- 'garnerlaw16.EditGets', WHERE WHAT IT READS IS OF BULK AT MOST 1048576: true; the input reads as it did. -/
def editGetsUptoRow : OpenClaim := { program := "ytdjknicjnaiomaa", sum := "cd5cf590852ad633aa17cd25f94f7099a9ed64fb1aadc1986ced5f1b2e961ab1", func := "garner/garnerlaw16.EditGets", spec := "editGets", unfollowed := true, recurses := true, apart := false, narrowed := true }
def EditGetsUptoSaid : Prop := editGetsUptoRow.holds Try.pinned (OpenSpec.upto editGetsSpec)

/-- 'garnerlaw16.EditReads', WHERE WHAT IT READS IS OF BULK AT MOST 1048576: true; the input reads as it did. -/
def editReadsUptoRow : OpenClaim := { program := "ytdjknicjnaiomaa", sum := "cd5cf590852ad633aa17cd25f94f7099a9ed64fb1aadc1986ced5f1b2e961ab1", func := "garner/garnerlaw16.EditReads", spec := "editReads", unfollowed := true, recurses := true, apart := false, narrowed := true }
def EditReadsUptoSaid : Prop := editReadsUptoRow.holds Try.pinned (OpenSpec.upto editReadsSpec)

/-- 'garnerlaw12.BlockGets', WHERE WHAT IT READS IS OF BULK AT MOST 1048576: true; the input reads as it did. -/
def blockGetsUptoRow : OpenClaim := { program := "ytdjknicjnaiomaa", sum := "cd5cf590852ad633aa17cd25f94f7099a9ed64fb1aadc1986ced5f1b2e961ab1", func := "garner/garnerlaw12.BlockGets", spec := "blockGets", unfollowed := true, recurses := true, apart := false, narrowed := true }
def BlockGetsUptoSaid : Prop := blockGetsUptoRow.holds Try.pinned (OpenSpec.upto blockGetsSpec)

/-- 'garnerlaw12.BlockReads', WHERE WHAT IT READS IS OF BULK AT MOST 1048576: true; the input reads as it did. -/
def blockReadsUptoRow : OpenClaim := { program := "ytdjknicjnaiomaa", sum := "cd5cf590852ad633aa17cd25f94f7099a9ed64fb1aadc1986ced5f1b2e961ab1", func := "garner/garnerlaw12.BlockReads", spec := "blockReads", unfollowed := true, recurses := true, apart := false, narrowed := true }
def BlockReadsUptoSaid : Prop := blockReadsUptoRow.holds Try.pinned (OpenSpec.upto blockReadsSpec)

/-- 'garnerlaw15.LevelMerges', WHERE WHAT IT READS IS OF BULK AT MOST 1048576: true; the input reads as it did. -/
def levelMergesUptoRow : OpenClaim := { program := "ytdjknicjnaiomaa", sum := "cd5cf590852ad633aa17cd25f94f7099a9ed64fb1aadc1986ced5f1b2e961ab1", func := "garner/garnerlaw15.LevelMerges", spec := "levelMerges", inPlace := ["internal/bytealg.abigen_runtime_cmpstring"], unfollowed := true, recurses := true, apart := false, narrowed := true }
def LevelMergesUptoSaid : Prop := levelMergesUptoRow.holds Try.pinned (OpenSpec.upto levelMergesSpec)

/-- 'garnerlaw15.LevelPicks', WHERE WHAT IT READS IS OF BULK AT MOST 1048576: true; the input reads as it did. -/
def levelPicksUptoRow : OpenClaim := { program := "ytdjknicjnaiomaa", sum := "cd5cf590852ad633aa17cd25f94f7099a9ed64fb1aadc1986ced5f1b2e961ab1", func := "garner/garnerlaw15.LevelPicks", spec := "levelPicks", inPlace := ["internal/bytealg.abigen_runtime_cmpstring"], unfollowed := true, recurses := true, apart := false, narrowed := true }
def LevelPicksUptoSaid : Prop := levelPicksUptoRow.holds Try.pinned (OpenSpec.upto levelPicksSpec)

end Rows
end Go.Proofs.Ytdjknicjnaiomaa
