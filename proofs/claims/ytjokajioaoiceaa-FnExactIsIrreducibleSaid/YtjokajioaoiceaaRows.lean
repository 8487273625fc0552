/-
  No cell of these rows narrows 'for every input' (looked for: loops, veiled, ifaces, maps, wideKeys, modest, calm, conditions, laid).
  DERIVED. THE GIVEN ROWS OF THIS SEAT. 12 by the template 'for every input the law returns true; each argument reads behind the call as it read before'; 0 by the template 'total and deterministic' (their statements: YtjokajioaoiceaaTotals.lean).
  GIVEN WITH THE SEED: the statements are not yours to turn. If you find one false, say at which input.
  Laid BY PROGRAM, IN A SANDBOX (cutbox-rows.mjs): the forced cells as the released guide's own fill.sh prints them over the translation 4ff9df87895276f5… (all of the seat's roots in one cut). By AI agents, Wed Nov 11 2026. No macro, syntax, notation, axiom, sorry.
-/
import Derived.Test.YtjokajioaoiceaaChecked
import GoSem.Claim
import GoSem.ClaimJoined
import GoSem.ClaimMapViews
import Derived.JoinedTies
import Derived.KernelRfl
namespace Go.Proofs.Ytjokajioaoiceaa
/- THE CELL 'sum', in the pinned program and in every row, IS THE sha256 OF THE DUMP (.gsa) THAT YtjokajioaoiceaaProg.lean LOADS. Nothing in Lean hashes anything: it is a label: what it is worth is what the hold of that sum in a sandbox is worth. -/
noncomputable def Try.pinned : Pinned := { name := "ytjokajioaoiceaa", sum := "4ff9df87895276f5942c6bf08d15dc249a79b8d8756bdc710c344c9d8349c673", checked := Try.checked }
namespace Rows
def none {H : Type} : Left H := { results := [], args := [] }

/-- 'laws.FnExactTableOk': WHATEVER THE INPUT: true; the input reads as it did. -/
def fnExactTableOkSpec : ChangeSpec := { name := "fnExactTableOk", fn := fun _ => fun
  | [d] => { results := [.lit (.bool true)], args := [d] }
  | _ => none }
def fnExactTableOkRow : OpenClaim := { program := "ytjokajioaoiceaa", sum := "4ff9df87895276f5942c6bf08d15dc249a79b8d8756bdc710c344c9d8349c673", func := "loop.example/g00928/laws.FnExactTableOk", spec := "fnExactTableOk", apart := false }
def FnExactTableOkSaid : Prop := fnExactTableOkRow.holds Try.pinned (OpenSpec.ofChange fnExactTableOkSpec)

/-- ITS FALSE NEIGHBOUR: 'it returns false'. Refute it at one input. -/
def fnExactTableOkWrong : ChangeSpec := { name := "fnExactTableOk", fn := fun _ => fun
  | [d] => { results := [.lit (.bool false)], args := [d] }
  | _ => none }
def FnExactTableOkWrongFalsely : Prop := fnExactTableOkRow.holds Try.pinned (OpenSpec.ofChange fnExactTableOkWrong)

/-- 'laws.FnExactCountWalls': WHATEVER THE INPUT: true; the input reads as it did. -/
def fnExactCountWallsSpec : ChangeSpec := { name := "fnExactCountWalls", fn := fun _ => fun
  | [d] => { results := [.lit (.bool true)], args := [d] }
  | _ => none }
def fnExactCountWallsRow : OpenClaim := { program := "ytjokajioaoiceaa", sum := "4ff9df87895276f5942c6bf08d15dc249a79b8d8756bdc710c344c9d8349c673", func := "loop.example/g00928/laws.FnExactCountWalls", spec := "fnExactCountWalls", apart := false }
def FnExactCountWallsSaid : Prop := fnExactCountWallsRow.holds Try.pinned (OpenSpec.ofChange fnExactCountWallsSpec)

/-- ITS FALSE NEIGHBOUR: 'it returns false'. Refute it at one input. -/
def fnExactCountWallsWrong : ChangeSpec := { name := "fnExactCountWalls", fn := fun _ => fun
  | [d] => { results := [.lit (.bool false)], args := [d] }
  | _ => none }
def FnExactCountWallsWrongFalsely : Prop := fnExactCountWallsRow.holds Try.pinned (OpenSpec.ofChange fnExactCountWallsWrong)

/-- 'laws.FnExactAnglesAt': WHATEVER THE INPUT: true; the input reads as it did. -/
def fnExactAnglesAtSpec : ChangeSpec := { name := "fnExactAnglesAt", fn := fun _ => fun
  | [d] => { results := [.lit (.bool true)], args := [d] }
  | _ => none }
def fnExactAnglesAtRow : OpenClaim := { program := "ytjokajioaoiceaa", sum := "4ff9df87895276f5942c6bf08d15dc249a79b8d8756bdc710c344c9d8349c673", func := "loop.example/g00928/laws.FnExactAnglesAt", spec := "fnExactAnglesAt", apart := false }
def FnExactAnglesAtSaid : Prop := fnExactAnglesAtRow.holds Try.pinned (OpenSpec.ofChange fnExactAnglesAtSpec)

/-- ITS FALSE NEIGHBOUR: 'it returns false'. Refute it at one input. -/
def fnExactAnglesAtWrong : ChangeSpec := { name := "fnExactAnglesAt", fn := fun _ => fun
  | [d] => { results := [.lit (.bool false)], args := [d] }
  | _ => none }
def FnExactAnglesAtWrongFalsely : Prop := fnExactAnglesAtRow.holds Try.pinned (OpenSpec.ofChange fnExactAnglesAtWrong)

/-- 'laws.FnExactUnfoldTable': WHATEVER THE INPUT: true; the input reads as it did. -/
def fnExactUnfoldTableSpec : ChangeSpec := { name := "fnExactUnfoldTable", fn := fun _ => fun
  | [d] => { results := [.lit (.bool true)], args := [d] }
  | _ => none }
def fnExactUnfoldTableRow : OpenClaim := { program := "ytjokajioaoiceaa", sum := "4ff9df87895276f5942c6bf08d15dc249a79b8d8756bdc710c344c9d8349c673", func := "loop.example/g00928/laws.FnExactUnfoldTable", spec := "fnExactUnfoldTable", apart := false }
def FnExactUnfoldTableSaid : Prop := fnExactUnfoldTableRow.holds Try.pinned (OpenSpec.ofChange fnExactUnfoldTableSpec)

/-- ITS FALSE NEIGHBOUR: 'it returns false'. Refute it at one input. -/
def fnExactUnfoldTableWrong : ChangeSpec := { name := "fnExactUnfoldTable", fn := fun _ => fun
  | [d] => { results := [.lit (.bool false)], args := [d] }
  | _ => none }
def FnExactUnfoldTableWrongFalsely : Prop := fnExactUnfoldTableRow.holds Try.pinned (OpenSpec.ofChange fnExactUnfoldTableWrong)

/-- 'laws.FnExactNewConsole': WHATEVER THE INPUT: true; the input reads as it did. -/
def fnExactNewConsoleSpec : ChangeSpec := { name := "fnExactNewConsole", fn := fun _ => fun
  | [] => { results := [.lit (.bool true)], args := [] }
  | _ => none }
def fnExactNewConsoleRow : OpenClaim := { program := "ytjokajioaoiceaa", sum := "4ff9df87895276f5942c6bf08d15dc249a79b8d8756bdc710c344c9d8349c673", func := "loop.example/g00928/laws.FnExactNewConsole", spec := "fnExactNewConsole", apart := false }
def FnExactNewConsoleSaid : Prop := fnExactNewConsoleRow.holds Try.pinned (OpenSpec.ofChange fnExactNewConsoleSpec)

/-- ITS FALSE NEIGHBOUR: 'it returns false'. Refute it at one input. -/
def fnExactNewConsoleWrong : ChangeSpec := { name := "fnExactNewConsole", fn := fun _ => fun
  | [] => { results := [.lit (.bool false)], args := [] }
  | _ => none }
def FnExactNewConsoleWrongFalsely : Prop := fnExactNewConsoleRow.holds Try.pinned (OpenSpec.ofChange fnExactNewConsoleWrong)

/-- 'laws.FnExactExchangeOk': WHATEVER THE INPUT: true; the input reads as it did. -/
def fnExactExchangeOkSpec : ChangeSpec := { name := "fnExactExchangeOk", fn := fun _ => fun
  | [d] => { results := [.lit (.bool true)], args := [d] }
  | _ => none }
def fnExactExchangeOkRow : OpenClaim := { program := "ytjokajioaoiceaa", sum := "4ff9df87895276f5942c6bf08d15dc249a79b8d8756bdc710c344c9d8349c673", func := "loop.example/g00928/laws.FnExactExchangeOk", spec := "fnExactExchangeOk", apart := false }
def FnExactExchangeOkSaid : Prop := fnExactExchangeOkRow.holds Try.pinned (OpenSpec.ofChange fnExactExchangeOkSpec)

/-- ITS FALSE NEIGHBOUR: 'it returns false'. Refute it at one input. -/
def fnExactExchangeOkWrong : ChangeSpec := { name := "fnExactExchangeOk", fn := fun _ => fun
  | [d] => { results := [.lit (.bool false)], args := [d] }
  | _ => none }
def FnExactExchangeOkWrongFalsely : Prop := fnExactExchangeOkRow.holds Try.pinned (OpenSpec.ofChange fnExactExchangeOkWrong)

/-- 'laws.FnExactTotalOf': WHATEVER THE INPUT: true; the input reads as it did. -/
def fnExactTotalOfSpec : ChangeSpec := { name := "fnExactTotalOf", fn := fun _ => fun
  | [d] => { results := [.lit (.bool true)], args := [d] }
  | _ => none }
def fnExactTotalOfRow : OpenClaim := { program := "ytjokajioaoiceaa", sum := "4ff9df87895276f5942c6bf08d15dc249a79b8d8756bdc710c344c9d8349c673", func := "loop.example/g00928/laws.FnExactTotalOf", spec := "fnExactTotalOf", apart := false }
def FnExactTotalOfSaid : Prop := fnExactTotalOfRow.holds Try.pinned (OpenSpec.ofChange fnExactTotalOfSpec)

/-- ITS FALSE NEIGHBOUR: 'it returns false'. Refute it at one input. -/
def fnExactTotalOfWrong : ChangeSpec := { name := "fnExactTotalOf", fn := fun _ => fun
  | [d] => { results := [.lit (.bool false)], args := [d] }
  | _ => none }
def FnExactTotalOfWrongFalsely : Prop := fnExactTotalOfRow.holds Try.pinned (OpenSpec.ofChange fnExactTotalOfWrong)

/-- 'laws.FnExactRotationOf': WHATEVER THE INPUT: true; the input reads as it did. -/
def fnExactRotationOfSpec : ChangeSpec := { name := "fnExactRotationOf", fn := fun _ => fun
  | [d1, d2] => { results := [.lit (.bool true)], args := [d1, d2] }
  | _ => none }
def fnExactRotationOfRow : OpenClaim := { program := "ytjokajioaoiceaa", sum := "4ff9df87895276f5942c6bf08d15dc249a79b8d8756bdc710c344c9d8349c673", func := "loop.example/g00928/laws.FnExactRotationOf", spec := "fnExactRotationOf", apart := false }
def FnExactRotationOfSaid : Prop := fnExactRotationOfRow.holds Try.pinned (OpenSpec.ofChange fnExactRotationOfSpec)

/-- ITS FALSE NEIGHBOUR: 'it returns false'. Refute it at one input. -/
def fnExactRotationOfWrong : ChangeSpec := { name := "fnExactRotationOf", fn := fun _ => fun
  | [d1, d2] => { results := [.lit (.bool false)], args := [d1, d2] }
  | _ => none }
def FnExactRotationOfWrongFalsely : Prop := fnExactRotationOfRow.holds Try.pinned (OpenSpec.ofChange fnExactRotationOfWrong)

/-- 'laws.FnExactIsIrreducible': WHATEVER THE INPUT: true; the input reads as it did. -/
def fnExactIsIrreducibleSpec : ChangeSpec := { name := "fnExactIsIrreducible", fn := fun _ => fun
  | [d] => { results := [.lit (.bool true)], args := [d] }
  | _ => none }
def fnExactIsIrreducibleRow : OpenClaim := { program := "ytjokajioaoiceaa", sum := "4ff9df87895276f5942c6bf08d15dc249a79b8d8756bdc710c344c9d8349c673", func := "loop.example/g00928/laws.FnExactIsIrreducible", spec := "fnExactIsIrreducible", apart := false }
def FnExactIsIrreducibleSaid : Prop := fnExactIsIrreducibleRow.holds Try.pinned (OpenSpec.ofChange fnExactIsIrreducibleSpec)

/-- ITS FALSE NEIGHBOUR: 'it returns false'. Refute it at one input. -/
def fnExactIsIrreducibleWrong : ChangeSpec := { name := "fnExactIsIrreducible", fn := fun _ => fun
  | [d] => { results := [.lit (.bool false)], args := [d] }
  | _ => none }
def FnExactIsIrreducibleWrongFalsely : Prop := fnExactIsIrreducibleRow.holds Try.pinned (OpenSpec.ofChange fnExactIsIrreducibleWrong)

/-- 'laws.FnExactMovePlace': WHATEVER THE INPUT: true; the input reads as it did. -/
def fnExactMovePlaceSpec : ChangeSpec := { name := "fnExactMovePlace", fn := fun _ => fun
  | [d1, d2] => { results := [.lit (.bool true)], args := [d1, d2] }
  | _ => none }
def fnExactMovePlaceRow : OpenClaim := { program := "ytjokajioaoiceaa", sum := "4ff9df87895276f5942c6bf08d15dc249a79b8d8756bdc710c344c9d8349c673", func := "loop.example/g00928/laws.FnExactMovePlace", spec := "fnExactMovePlace", apart := false }
def FnExactMovePlaceSaid : Prop := fnExactMovePlaceRow.holds Try.pinned (OpenSpec.ofChange fnExactMovePlaceSpec)

/-- ITS FALSE NEIGHBOUR: 'it returns false'. Refute it at one input. -/
def fnExactMovePlaceWrong : ChangeSpec := { name := "fnExactMovePlace", fn := fun _ => fun
  | [d1, d2] => { results := [.lit (.bool false)], args := [d1, d2] }
  | _ => none }
def FnExactMovePlaceWrongFalsely : Prop := fnExactMovePlaceRow.holds Try.pinned (OpenSpec.ofChange fnExactMovePlaceWrong)

/-- 'laws.FnExactCountLoops': WHATEVER THE INPUT: true; the input reads as it did. -/
def fnExactCountLoopsSpec : ChangeSpec := { name := "fnExactCountLoops", fn := fun _ => fun
  | [d] => { results := [.lit (.bool true)], args := [d] }
  | _ => none }
def fnExactCountLoopsRow : OpenClaim := { program := "ytjokajioaoiceaa", sum := "4ff9df87895276f5942c6bf08d15dc249a79b8d8756bdc710c344c9d8349c673", func := "loop.example/g00928/laws.FnExactCountLoops", spec := "fnExactCountLoops", apart := false }
def FnExactCountLoopsSaid : Prop := fnExactCountLoopsRow.holds Try.pinned (OpenSpec.ofChange fnExactCountLoopsSpec)

/-- ITS FALSE NEIGHBOUR: 'it returns false'. Refute it at one input. -/
def fnExactCountLoopsWrong : ChangeSpec := { name := "fnExactCountLoops", fn := fun _ => fun
  | [d] => { results := [.lit (.bool false)], args := [d] }
  | _ => none }
def FnExactCountLoopsWrongFalsely : Prop := fnExactCountLoopsRow.holds Try.pinned (OpenSpec.ofChange fnExactCountLoopsWrong)

/-- 'laws.FnExactInduceOnce': WHATEVER THE INPUT: true; the input reads as it did. -/
def fnExactInduceOnceSpec : ChangeSpec := { name := "fnExactInduceOnce", fn := fun _ => fun
  | [d] => { results := [.lit (.bool true)], args := [d] }
  | _ => none }
def fnExactInduceOnceRow : OpenClaim := { program := "ytjokajioaoiceaa", sum := "4ff9df87895276f5942c6bf08d15dc249a79b8d8756bdc710c344c9d8349c673", func := "loop.example/g00928/laws.FnExactInduceOnce", spec := "fnExactInduceOnce", inPlace := ["slices.overlaps[int]"], apart := false }
def FnExactInduceOnceSaid : Prop := fnExactInduceOnceRow.holds Try.pinned (OpenSpec.ofChange fnExactInduceOnceSpec)

/-- ITS FALSE NEIGHBOUR: 'it returns false'. Refute it at one input. -/
def fnExactInduceOnceWrong : ChangeSpec := { name := "fnExactInduceOnce", fn := fun _ => fun
  | [d] => { results := [.lit (.bool false)], args := [d] }
  | _ => none }
def FnExactInduceOnceWrongFalsely : Prop := fnExactInduceOnceRow.holds Try.pinned (OpenSpec.ofChange fnExactInduceOnceWrong)

/- THE SECOND FORM. 'bulk': how many values and letters a reading holds, each counted each time it is reached (what is shared counts as often as it is met; a slice's spare places count too). A statement '..UptoSaid' is the law's where the arguments, and the package variables that the reading takes, are together of bulk at most 1048576: NARROWER than '..Said'. Prove '..Said' where nothing that the law and all that it calls make is longer than what came in: it says more and counts as full. Else prove '..UptoSaid'. A law counts once. -/
mutual
def uptoBulk {H : Type} : DataW H → Nat
  | .lit (.string bytes) => bytes.length + 1
  | .lit _ => 1
  | .nil => 1
  | .ptr d => uptoBulk d + 1
  | .slice elems spare => uptoBulkAll elems + uptoBulkAll spare + 1
  | .agg parts => uptoBulkAll parts + 1
  | .iface _ d => uptoBulk d + 1
  | .map entries => uptoBulkEntries entries + 1
  | .held _ => 1
def uptoBulkAll {H : Type} : List (DataW H) → Nat
  | [] => 0
  | d :: r => uptoBulk d + uptoBulkAll r
def uptoBulkEntries {H : Type} : List (Lit × DataW H) → Nat
  | [] => 0
  | x :: r => uptoBulkEntry x + uptoBulkEntries r
def uptoBulkEntry {H : Type} : Lit × DataW H → Nat
  | (.string bytes, d) => bytes.length + uptoBulk d + 1
  | (_, d) => uptoBulk d + 1
 end
def uptoSmall : (H : Type) → List (DataW H) → Bool := fun _ ds => decide (uptoBulkAll ds ≤ 1048576)
def OpenSpec.upto (s : _root_.Go.ChangeSpec) : _root_.Go.OpenSpec := { _root_.Go.OpenSpec.ofChange s with cond := some uptoSmall }

/-- 'laws.FnExactTableOk', WHERE WHAT IT READS IS OF BULK AT MOST 1048576: true; the input reads as it did. -/
def fnExactTableOkUptoRow : OpenClaim := { program := "ytjokajioaoiceaa", sum := "4ff9df87895276f5942c6bf08d15dc249a79b8d8756bdc710c344c9d8349c673", func := "loop.example/g00928/laws.FnExactTableOk", spec := "fnExactTableOk", apart := false, narrowed := true }
def FnExactTableOkUptoSaid : Prop := fnExactTableOkUptoRow.holds Try.pinned (OpenSpec.upto fnExactTableOkSpec)

/-- 'laws.FnExactCountWalls', WHERE WHAT IT READS IS OF BULK AT MOST 1048576: true; the input reads as it did. -/
def fnExactCountWallsUptoRow : OpenClaim := { program := "ytjokajioaoiceaa", sum := "4ff9df87895276f5942c6bf08d15dc249a79b8d8756bdc710c344c9d8349c673", func := "loop.example/g00928/laws.FnExactCountWalls", spec := "fnExactCountWalls", apart := false, narrowed := true }
def FnExactCountWallsUptoSaid : Prop := fnExactCountWallsUptoRow.holds Try.pinned (OpenSpec.upto fnExactCountWallsSpec)

/-- 'laws.FnExactAnglesAt', WHERE WHAT IT READS IS OF BULK AT MOST 1048576: true; the input reads as it did. -/
def fnExactAnglesAtUptoRow : OpenClaim := { program := "ytjokajioaoiceaa", sum := "4ff9df87895276f5942c6bf08d15dc249a79b8d8756bdc710c344c9d8349c673", func := "loop.example/g00928/laws.FnExactAnglesAt", spec := "fnExactAnglesAt", apart := false, narrowed := true }
def FnExactAnglesAtUptoSaid : Prop := fnExactAnglesAtUptoRow.holds Try.pinned (OpenSpec.upto fnExactAnglesAtSpec)

/-- 'laws.FnExactUnfoldTable', WHERE WHAT IT READS IS OF BULK AT MOST 1048576: true; the input reads as it did. -/
def fnExactUnfoldTableUptoRow : OpenClaim := { program := "ytjokajioaoiceaa", sum := "4ff9df87895276f5942c6bf08d15dc249a79b8d8756bdc710c344c9d8349c673", func := "loop.example/g00928/laws.FnExactUnfoldTable", spec := "fnExactUnfoldTable", apart := false, narrowed := true }
def FnExactUnfoldTableUptoSaid : Prop := fnExactUnfoldTableUptoRow.holds Try.pinned (OpenSpec.upto fnExactUnfoldTableSpec)

/-- 'laws.FnExactNewConsole', WHERE WHAT IT READS IS OF BULK AT MOST 1048576: true; the input reads as it did. -/
def fnExactNewConsoleUptoRow : OpenClaim := { program := "ytjokajioaoiceaa", sum := "4ff9df87895276f5942c6bf08d15dc249a79b8d8756bdc710c344c9d8349c673", func := "loop.example/g00928/laws.FnExactNewConsole", spec := "fnExactNewConsole", apart := false, narrowed := true }
def FnExactNewConsoleUptoSaid : Prop := fnExactNewConsoleUptoRow.holds Try.pinned (OpenSpec.upto fnExactNewConsoleSpec)

/-- 'laws.FnExactExchangeOk', WHERE WHAT IT READS IS OF BULK AT MOST 1048576: true; the input reads as it did. -/
def fnExactExchangeOkUptoRow : OpenClaim := { program := "ytjokajioaoiceaa", sum := "4ff9df87895276f5942c6bf08d15dc249a79b8d8756bdc710c344c9d8349c673", func := "loop.example/g00928/laws.FnExactExchangeOk", spec := "fnExactExchangeOk", apart := false, narrowed := true }
def FnExactExchangeOkUptoSaid : Prop := fnExactExchangeOkUptoRow.holds Try.pinned (OpenSpec.upto fnExactExchangeOkSpec)

/-- 'laws.FnExactTotalOf', WHERE WHAT IT READS IS OF BULK AT MOST 1048576: true; the input reads as it did. -/
def fnExactTotalOfUptoRow : OpenClaim := { program := "ytjokajioaoiceaa", sum := "4ff9df87895276f5942c6bf08d15dc249a79b8d8756bdc710c344c9d8349c673", func := "loop.example/g00928/laws.FnExactTotalOf", spec := "fnExactTotalOf", apart := false, narrowed := true }
def FnExactTotalOfUptoSaid : Prop := fnExactTotalOfUptoRow.holds Try.pinned (OpenSpec.upto fnExactTotalOfSpec)

/-- 'laws.FnExactRotationOf', WHERE WHAT IT READS IS OF BULK AT MOST 1048576: true; the input reads as it did. -/
def fnExactRotationOfUptoRow : OpenClaim := { program := "ytjokajioaoiceaa", sum := "4ff9df87895276f5942c6bf08d15dc249a79b8d8756bdc710c344c9d8349c673", func := "loop.example/g00928/laws.FnExactRotationOf", spec := "fnExactRotationOf", apart := false, narrowed := true }
def FnExactRotationOfUptoSaid : Prop := fnExactRotationOfUptoRow.holds Try.pinned (OpenSpec.upto fnExactRotationOfSpec)

/-- 'laws.FnExactIsIrreducible', WHERE WHAT IT READS IS OF BULK AT MOST 1048576: true; the input reads as it did. -/
def fnExactIsIrreducibleUptoRow : OpenClaim := { program := "ytjokajioaoiceaa", sum := "4ff9df87895276f5942c6bf08d15dc249a79b8d8756bdc710c344c9d8349c673", func := "loop.example/g00928/laws.FnExactIsIrreducible", spec := "fnExactIsIrreducible", apart := false, narrowed := true }
def FnExactIsIrreducibleUptoSaid : Prop := fnExactIsIrreducibleUptoRow.holds Try.pinned (OpenSpec.upto fnExactIsIrreducibleSpec)

/-- 'laws.FnExactMovePlace', WHERE WHAT IT READS IS OF BULK AT MOST 1048576: true; the input reads as it did. -/
def fnExactMovePlaceUptoRow : OpenClaim := { program := "ytjokajioaoiceaa", sum := "4ff9df87895276f5942c6bf08d15dc249a79b8d8756bdc710c344c9d8349c673", func := "loop.example/g00928/laws.FnExactMovePlace", spec := "fnExactMovePlace", apart := false, narrowed := true }
def FnExactMovePlaceUptoSaid : Prop := fnExactMovePlaceUptoRow.holds Try.pinned (OpenSpec.upto fnExactMovePlaceSpec)

/-- 'laws.FnExactCountLoops', WHERE WHAT IT READS IS OF BULK AT MOST 1048576: true; the input reads as it did. -/
def fnExactCountLoopsUptoRow : OpenClaim := { program := "ytjokajioaoiceaa", sum := "4ff9df87895276f5942c6bf08d15dc249a79b8d8756bdc710c344c9d8349c673", func := "loop.example/g00928/laws.FnExactCountLoops", spec := "fnExactCountLoops", apart := false, narrowed := true }
def FnExactCountLoopsUptoSaid : Prop := fnExactCountLoopsUptoRow.holds Try.pinned (OpenSpec.upto fnExactCountLoopsSpec)

/-- 'laws.FnExactInduceOnce', WHERE WHAT IT READS IS OF BULK AT MOST 1048576: true; the input reads as it did. -/
def fnExactInduceOnceUptoRow : OpenClaim := { program := "ytjokajioaoiceaa", sum := "4ff9df87895276f5942c6bf08d15dc249a79b8d8756bdc710c344c9d8349c673", func := "loop.example/g00928/laws.FnExactInduceOnce", spec := "fnExactInduceOnce", inPlace := ["slices.overlaps[int]"], apart := false, narrowed := true }
def FnExactInduceOnceUptoSaid : Prop := fnExactInduceOnceUptoRow.holds Try.pinned (OpenSpec.upto fnExactInduceOnceSpec)

end Rows
end Go.Proofs.Ytjokajioaoiceaa
