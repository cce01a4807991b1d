/-
  No cell of these rows narrows 'for every input' (looked for: loops, veiled, ifaces, maps, wideKeys, modest, calm, conditions, laid).
  DERIVED. THE GIVEN ROWS OF THIS SEAT. 5 by the template 'for every input the law returns true; each argument reads behind the call as it read before'; 0 by the template 'total and deterministic' (their statements: YtaabfkcbkcmneaaTotals.lean).
  GIVEN WITH THE SEED: the statements are not yours to turn. If you find one false, say at which input.
  Laid BY PROGRAM, IN A SANDBOX (cutbox-rows.mjs): the forced cells as the released guide's own fill.sh prints them over the translation bd85455709951282… (all of the seat's roots in one cut). By AI agents, Wed Nov 11 2026. No macro, syntax, notation, axiom, sorry.
-/
import Derived.Test.YtaabfkcbkcmneaaChecked
import GoSem.Claim
import GoSem.ClaimJoined
import GoSem.ClaimMapViews
import Derived.JoinedTies
import Derived.KernelRfl
namespace Go.Proofs.Ytaabfkcbkcmneaa
/- THE CELL 'sum', in the pinned program and in every row, IS THE sha256 OF THE DUMP (.gsa) THAT YtaabfkcbkcmneaaProg.lean LOADS. Nothing in Lean hashes anything: it is a label: what it is worth is what the hold of that sum in a sandbox is worth. -/
noncomputable def Try.pinned : Pinned := { name := "ytaabfkcbkcmneaa", sum := "bd85455709951282b3277ee892836fdde93f41b47038f1567aa4b8ec31d84011", checked := Try.checked }
namespace Rows
def none {H : Type} : Left H := { results := [], args := [] }

/-- 'laws.FnExactIsTable': WHATEVER THE INPUT: true; the input reads as it did. -/
def fnExactIsTableSpec : ChangeSpec := { name := "fnExactIsTable", fn := fun _ => fun
  | [d] => { results := [.lit (.bool true)], args := [d] }
  | _ => none }
def fnExactIsTableRow : OpenClaim := { program := "ytaabfkcbkcmneaa", sum := "bd85455709951282b3277ee892836fdde93f41b47038f1567aa4b8ec31d84011", func := "loop.example/g00947/laws.FnExactIsTable", spec := "fnExactIsTable", apart := false }
def FnExactIsTableSaid : Prop := fnExactIsTableRow.holds Try.pinned (OpenSpec.ofChange fnExactIsTableSpec)

/-- ITS FALSE NEIGHBOUR: 'it returns false'. Refute it at one input. -/
def fnExactIsTableWrong : ChangeSpec := { name := "fnExactIsTable", fn := fun _ => fun
  | [d] => { results := [.lit (.bool false)], args := [d] }
  | _ => none }
def FnExactIsTableWrongFalsely : Prop := fnExactIsTableRow.holds Try.pinned (OpenSpec.ofChange fnExactIsTableWrong)

/-- 'laws.FnExactCountDoors': WHATEVER THE INPUT: true; the input reads as it did. -/
def fnExactCountDoorsSpec : ChangeSpec := { name := "fnExactCountDoors", fn := fun _ => fun
  | [d1, d2] => { results := [.lit (.bool true)], args := [d1, d2] }
  | _ => none }
def fnExactCountDoorsRow : OpenClaim := { program := "ytaabfkcbkcmneaa", sum := "bd85455709951282b3277ee892836fdde93f41b47038f1567aa4b8ec31d84011", func := "loop.example/g00947/laws.FnExactCountDoors", spec := "fnExactCountDoors", apart := false }
def FnExactCountDoorsSaid : Prop := fnExactCountDoorsRow.holds Try.pinned (OpenSpec.ofChange fnExactCountDoorsSpec)

/-- ITS FALSE NEIGHBOUR: 'it returns false'. Refute it at one input. -/
def fnExactCountDoorsWrong : ChangeSpec := { name := "fnExactCountDoors", fn := fun _ => fun
  | [d1, d2] => { results := [.lit (.bool false)], args := [d1, d2] }
  | _ => none }
def FnExactCountDoorsWrongFalsely : Prop := fnExactCountDoorsRow.holds Try.pinned (OpenSpec.ofChange fnExactCountDoorsWrong)

/-- 'laws.FnExactTurnTable': WHATEVER THE INPUT: true; the input reads as it did. -/
def fnExactTurnTableSpec : ChangeSpec := { name := "fnExactTurnTable", fn := fun _ => fun
  | [d] => { results := [.lit (.bool true)], args := [d] }
  | _ => none }
def fnExactTurnTableRow : OpenClaim := { program := "ytaabfkcbkcmneaa", sum := "bd85455709951282b3277ee892836fdde93f41b47038f1567aa4b8ec31d84011", func := "loop.example/g00947/laws.FnExactTurnTable", spec := "fnExactTurnTable", apart := false }
def FnExactTurnTableSaid : Prop := fnExactTurnTableRow.holds Try.pinned (OpenSpec.ofChange fnExactTurnTableSpec)

/-- ITS FALSE NEIGHBOUR: 'it returns false'. Refute it at one input. -/
def fnExactTurnTableWrong : ChangeSpec := { name := "fnExactTurnTable", fn := fun _ => fun
  | [d] => { results := [.lit (.bool false)], args := [d] }
  | _ => none }
def FnExactTurnTableWrongFalsely : Prop := fnExactTurnTableRow.holds Try.pinned (OpenSpec.ofChange fnExactTurnTableWrong)

/-- 'laws.FnExactIsHierarchical': WHATEVER THE INPUT: true; the input reads as it did. -/
def fnExactIsHierarchicalSpec : ChangeSpec := { name := "fnExactIsHierarchical", fn := fun _ => fun
  | [d] => { results := [.lit (.bool true)], args := [d] }
  | _ => none }
def fnExactIsHierarchicalRow : OpenClaim := { program := "ytaabfkcbkcmneaa", sum := "bd85455709951282b3277ee892836fdde93f41b47038f1567aa4b8ec31d84011", func := "loop.example/g00947/laws.FnExactIsHierarchical", spec := "fnExactIsHierarchical", apart := false }
def FnExactIsHierarchicalSaid : Prop := fnExactIsHierarchicalRow.holds Try.pinned (OpenSpec.ofChange fnExactIsHierarchicalSpec)

/-- ITS FALSE NEIGHBOUR: 'it returns false'. Refute it at one input. -/
def fnExactIsHierarchicalWrong : ChangeSpec := { name := "fnExactIsHierarchical", fn := fun _ => fun
  | [d] => { results := [.lit (.bool false)], args := [d] }
  | _ => none }
def FnExactIsHierarchicalWrongFalsely : Prop := fnExactIsHierarchicalRow.holds Try.pinned (OpenSpec.ofChange fnExactIsHierarchicalWrong)

/-- 'laws.FnExactDoorsInCommon': WHATEVER THE INPUT: true; the input reads as it did. -/
def fnExactDoorsInCommonSpec : ChangeSpec := { name := "fnExactDoorsInCommon", fn := fun _ => fun
  | [d1, d2, d3] => { results := [.lit (.bool true)], args := [d1, d2, d3] }
  | _ => none }
def fnExactDoorsInCommonRow : OpenClaim := { program := "ytaabfkcbkcmneaa", sum := "bd85455709951282b3277ee892836fdde93f41b47038f1567aa4b8ec31d84011", func := "loop.example/g00947/laws.FnExactDoorsInCommon", spec := "fnExactDoorsInCommon", apart := false }
def FnExactDoorsInCommonSaid : Prop := fnExactDoorsInCommonRow.holds Try.pinned (OpenSpec.ofChange fnExactDoorsInCommonSpec)

/-- ITS FALSE NEIGHBOUR: 'it returns false'. Refute it at one input. -/
def fnExactDoorsInCommonWrong : ChangeSpec := { name := "fnExactDoorsInCommon", fn := fun _ => fun
  | [d1, d2, d3] => { results := [.lit (.bool false)], args := [d1, d2, d3] }
  | _ => none }
def FnExactDoorsInCommonWrongFalsely : Prop := fnExactDoorsInCommonRow.holds Try.pinned (OpenSpec.ofChange fnExactDoorsInCommonWrong)

/- THE SECOND FORM. 'bulk': how many values and letters a reading holds, each counted each time it is reached (what is shared counts as often as it is met; a slice's spare places count too). A statement '..UptoSaid' is the law's where the arguments, and the package variables that the reading takes, are together of bulk at most 1048576: NARROWER than '..Said'. Prove '..Said' where nothing that the law and all that it calls make is longer than what came in: it says more and counts as full. Else prove '..UptoSaid'. A law counts once. -/
mutual
def uptoBulk {H : Type} : DataW H → Nat
  | .lit (.string bytes) => bytes.length + 1
  | .lit _ => 1
  | .nil => 1
  | .ptr d => uptoBulk d + 1
  | .slice elems spare => uptoBulkAll elems + uptoBulkAll spare + 1
  | .agg parts => uptoBulkAll parts + 1
  | .iface _ d => uptoBulk d + 1
  | .map entries => uptoBulkEntries entries + 1
  | .held _ => 1
def uptoBulkAll {H : Type} : List (DataW H) → Nat
  | [] => 0
  | d :: r => uptoBulk d + uptoBulkAll r
def uptoBulkEntries {H : Type} : List (Lit × DataW H) → Nat
  | [] => 0
  | x :: r => uptoBulkEntry x + uptoBulkEntries r
def uptoBulkEntry {H : Type} : Lit × DataW H → Nat
  | (.string bytes, d) => bytes.length + uptoBulk d + 1
  | (_, d) => uptoBulk d + 1
 end
def uptoSmall : (H : Type) → List (DataW H) → Bool := fun _ ds => decide (uptoBulkAll ds ≤ 1048576)
def OpenSpec.upto (s : _root_.Go.ChangeSpec) : _root_.Go.OpenSpec := { _root_.Go.OpenSpec.ofChange s with cond := some uptoSmall }

/-- 'laws.FnExactIsTable', WHERE WHAT IT READS IS OF BULK AT MOST 1048576: true; the input reads as it did. -/
def fnExactIsTableUptoRow : OpenClaim := { program := "ytaabfkcbkcmneaa", sum := "bd85455709951282b3277ee892836fdde93f41b47038f1567aa4b8ec31d84011", func := "loop.example/g00947/laws.FnExactIsTable", spec := "fnExactIsTable", apart := false, narrowed := true }
def FnExactIsTableUptoSaid : Prop := fnExactIsTableUptoRow.holds Try.pinned (OpenSpec.upto fnExactIsTableSpec)

/-- 'laws.FnExactCountDoors', WHERE WHAT IT READS IS OF BULK AT MOST 1048576: true; the input reads as it did. -/
def fnExactCountDoorsUptoRow : OpenClaim := { program := "ytaabfkcbkcmneaa", sum := "bd85455709951282b3277ee892836fdde93f41b47038f1567aa4b8ec31d84011", func := "loop.example/g00947/laws.FnExactCountDoors", spec := "fnExactCountDoors", apart := false, narrowed := true }
def FnExactCountDoorsUptoSaid : Prop := fnExactCountDoorsUptoRow.holds Try.pinned (OpenSpec.upto fnExactCountDoorsSpec)

/-- 'laws.FnExactTurnTable', WHERE WHAT IT READS IS OF BULK AT MOST 1048576: true; the input reads as it did. -/
def fnExactTurnTableUptoRow : OpenClaim := { program := "ytaabfkcbkcmneaa", sum := "bd85455709951282b3277ee892836fdde93f41b47038f1567aa4b8ec31d84011", func := "loop.example/g00947/laws.FnExactTurnTable", spec := "fnExactTurnTable", apart := false, narrowed := true }
def FnExactTurnTableUptoSaid : Prop := fnExactTurnTableUptoRow.holds Try.pinned (OpenSpec.upto fnExactTurnTableSpec)

/-- 'laws.FnExactIsHierarchical', WHERE WHAT IT READS IS OF BULK AT MOST 1048576: true; the input reads as it did. -/
def fnExactIsHierarchicalUptoRow : OpenClaim := { program := "ytaabfkcbkcmneaa", sum := "bd85455709951282b3277ee892836fdde93f41b47038f1567aa4b8ec31d84011", func := "loop.example/g00947/laws.FnExactIsHierarchical", spec := "fnExactIsHierarchical", apart := false, narrowed := true }
def FnExactIsHierarchicalUptoSaid : Prop := fnExactIsHierarchicalUptoRow.holds Try.pinned (OpenSpec.upto fnExactIsHierarchicalSpec)

/-- 'laws.FnExactDoorsInCommon', WHERE WHAT IT READS IS OF BULK AT MOST 1048576: true; the input reads as it did. -/
def fnExactDoorsInCommonUptoRow : OpenClaim := { program := "ytaabfkcbkcmneaa", sum := "bd85455709951282b3277ee892836fdde93f41b47038f1567aa4b8ec31d84011", func := "loop.example/g00947/laws.FnExactDoorsInCommon", spec := "fnExactDoorsInCommon", apart := false, narrowed := true }
def FnExactDoorsInCommonUptoSaid : Prop := fnExactDoorsInCommonUptoRow.holds Try.pinned (OpenSpec.upto fnExactDoorsInCommonSpec)

end Rows
end Go.Proofs.Ytaabfkcbkcmneaa
