/-
  NARROWER THAN 'FOR EVERY INPUT', by the rows' own cells (each row's printed sentence says how): FnCornersHit: laid · FnExactBallLine: laid · FnExactFormatCylinder: laid · FnExactFormatRatio: laid · FnExactFormatMatrix: laid · FnExactFormatList: laid · FnExactCylinderLine: laid · FnMatrices: laid · FnExactFormatPerm: laid · FnExactFormatTable: laid · FnExactFormatSurface: laid.
  DERIVED. THE GIVEN ROWS OF THIS SEAT. 11 by the template 'for every input the law returns true; each argument reads behind the call as it read before'; 0 by the template 'total and deterministic' (their statements: YtnoopmbhdlfkbaaDoorTotals.lean).
  GIVEN WITH THE SEED: the statements are not yours to turn. If you find one false, say at which input.
  Laid BY PROGRAM, IN A SANDBOX (cutbox-rows.mjs): the forced cells as the released guide's own fill.sh prints them over the translation 759dcf8e34c86a1a… (all of the seat's roots in one cut). By AI agents, Wed Nov 11 2026. No macro, syntax, notation, axiom, sorry.
-/
import Derived.Test.YtnoopmbhdlfkbaaDoorChecked
import GoSem.Claim
import GoSem.ClaimJoined
import GoSem.ClaimMapViews
import Derived.JoinedTies
import Derived.KernelRfl
namespace Go.Proofs.YtnoopmbhdlfkbaaDoor
/- THE CELL 'sum', in the pinned program and in every row, IS THE sha256 OF THE DUMP (.gsa) THAT YtnoopmbhdlfkbaaDoorProg.lean LOADS. Nothing in Lean hashes anything: it is a label: what it is worth is what the hold of that sum in a sandbox is worth. -/
noncomputable def Tryd.pinned : Pinned := { name := "ytnoopmbhdlfkbaadoor", sum := "759dcf8e34c86a1a2d3e6c064275fb9a029ee71ae5a0974046e4dc64f7fdfc30", checked := Tryd.checked }
namespace Rows
def none {H : Type} : Left H := { results := [], args := [] }

/- WHAT THE LISTED PACKAGE-LEVEL VARIABLES READ AS WHEN THE CALL BEGINS. Each datum BY PROGRAM (the guide's laid-datum.mjs) off the statement by which the dump's own 'gosem.cut.vars' lays the variable. In a bare row this is a premise. The card (YtnoopmbhdlfkbaaDoorCards.lean) ties it to the program's text. -/
def laid_math_bits_deBruijn32tab {H : Type} : DataW H := .agg [.lit (.int .u8 0), .lit (.int .u8 1), .lit (.int .u8 28), .lit (.int .u8 2), .lit (.int .u8 29), .lit (.int .u8 14), .lit (.int .u8 24), .lit (.int .u8 3), .lit (.int .u8 30), .lit (.int .u8 22), .lit (.int .u8 20), .lit (.int .u8 15), .lit (.int .u8 25), .lit (.int .u8 17), .lit (.int .u8 4), .lit (.int .u8 8), .lit (.int .u8 31), .lit (.int .u8 27), .lit (.int .u8 13), .lit (.int .u8 23), .lit (.int .u8 21), .lit (.int .u8 19), .lit (.int .u8 16), .lit (.int .u8 7), .lit (.int .u8 26), .lit (.int .u8 12), .lit (.int .u8 18), .lit (.int .u8 6), .lit (.int .u8 11), .lit (.int .u8 5), .lit (.int .u8 10), .lit (.int .u8 9)]
def laid_math_bits_deBruijn64tab {H : Type} : DataW H := .agg [.lit (.int .u8 0), .lit (.int .u8 1), .lit (.int .u8 56), .lit (.int .u8 2), .lit (.int .u8 57), .lit (.int .u8 49), .lit (.int .u8 28), .lit (.int .u8 3), .lit (.int .u8 61), .lit (.int .u8 58), .lit (.int .u8 42), .lit (.int .u8 50), .lit (.int .u8 38), .lit (.int .u8 29), .lit (.int .u8 17), .lit (.int .u8 4), .lit (.int .u8 62), .lit (.int .u8 47), .lit (.int .u8 59), .lit (.int .u8 36), .lit (.int .u8 45), .lit (.int .u8 43), .lit (.int .u8 51), .lit (.int .u8 22), .lit (.int .u8 53), .lit (.int .u8 39), .lit (.int .u8 33), .lit (.int .u8 30), .lit (.int .u8 24), .lit (.int .u8 18), .lit (.int .u8 12), .lit (.int .u8 5), .lit (.int .u8 63), .lit (.int .u8 55), .lit (.int .u8 48), .lit (.int .u8 27), .lit (.int .u8 60), .lit (.int .u8 41), .lit (.int .u8 37), .lit (.int .u8 16), .lit (.int .u8 46), .lit (.int .u8 35), .lit (.int .u8 44), .lit (.int .u8 21), .lit (.int .u8 52), .lit (.int .u8 32), .lit (.int .u8 23), .lit (.int .u8 11), .lit (.int .u8 54), .lit (.int .u8 26), .lit (.int .u8 40), .lit (.int .u8 15), .lit (.int .u8 34), .lit (.int .u8 20), .lit (.int .u8 31), .lit (.int .u8 10), .lit (.int .u8 25), .lit (.int .u8 14), .lit (.int .u8 19), .lit (.int .u8 9), .lit (.int .u8 13), .lit (.int .u8 8), .lit (.int .u8 7), .lit (.int .u8 6)]
def laid_internal_strconv_uint64pow10 {H : Type} : DataW H := .agg [.lit (.int .u64 1), .lit (.int .u64 10), .lit (.int .u64 100), .lit (.int .u64 1000), .lit (.int .u64 10000), .lit (.int .u64 100000), .lit (.int .u64 1000000), .lit (.int .u64 10000000), .lit (.int .u64 100000000), .lit (.int .u64 1000000000), .lit (.int .u64 10000000000), .lit (.int .u64 100000000000), .lit (.int .u64 1000000000000), .lit (.int .u64 10000000000000), .lit (.int .u64 100000000000000), .lit (.int .u64 1000000000000000), .lit (.int .u64 10000000000000000), .lit (.int .u64 100000000000000000), .lit (.int .u64 1000000000000000000), .lit (.int .u64 10000000000000000000)]

/-- 'laws.FnCornersHit': WHATEVER THE INPUT: true; the input reads as it did. -/
def fnCornersHitSpec : ChangeSpec := { name := "fnCornersHit", fn := fun _ => fun
  | [d] => { results := [.lit (.bool true)], args := [d] }
  | _ => none }
def fnCornersHitRow : OpenClaim := { program := "ytnoopmbhdlfkbaadoor", sum := "759dcf8e34c86a1a2d3e6c064275fb9a029ee71ae5a0974046e4dc64f7fdfc30", func := "loop.example/g00928/laws.FnCornersHit", spec := "fnCornersHit", named := ["internal/strconv.uint64pow10", "math/bits.deBruijn32tab", "math/bits.deBruijn64tab"], apart := false, laid := [("math/bits.deBruijn32tab", laid_math_bits_deBruijn32tab), ("math/bits.deBruijn64tab", laid_math_bits_deBruijn64tab), ("internal/strconv.uint64pow10", laid_internal_strconv_uint64pow10)] }
def FnCornersHitSaid : Prop := fnCornersHitRow.holds Tryd.pinned (OpenSpec.ofChange fnCornersHitSpec)

/-- ITS FALSE NEIGHBOUR: 'it returns false'. Refute it at one input. -/
def fnCornersHitWrong : ChangeSpec := { name := "fnCornersHit", fn := fun _ => fun
  | [d] => { results := [.lit (.bool false)], args := [d] }
  | _ => none }
def FnCornersHitWrongFalsely : Prop := fnCornersHitRow.holds Tryd.pinned (OpenSpec.ofChange fnCornersHitWrong)

/-- 'laws.FnExactBallLine': WHATEVER THE INPUT: true; the input reads as it did. -/
def fnExactBallLineSpec : ChangeSpec := { name := "fnExactBallLine", fn := fun _ => fun
  | [d1, d2, d3] => { results := [.lit (.bool true)], args := [d1, d2, d3] }
  | _ => none }
def fnExactBallLineRow : OpenClaim := { program := "ytnoopmbhdlfkbaadoor", sum := "759dcf8e34c86a1a2d3e6c064275fb9a029ee71ae5a0974046e4dc64f7fdfc30", func := "loop.example/g00928/laws.FnExactBallLine", spec := "fnExactBallLine", recurses := true, named := ["internal/strconv.uint64pow10", "math/bits.deBruijn32tab", "math/bits.deBruijn64tab"], apart := false, laid := [("math/bits.deBruijn32tab", laid_math_bits_deBruijn32tab), ("math/bits.deBruijn64tab", laid_math_bits_deBruijn64tab), ("internal/strconv.uint64pow10", laid_internal_strconv_uint64pow10)] }
def FnExactBallLineSaid : Prop := fnExactBallLineRow.holds Tryd.pinned (OpenSpec.ofChange fnExactBallLineSpec)

/-- ITS FALSE NEIGHBOUR: 'it returns false'. Refute it at one input. -/
def fnExactBallLineWrong : ChangeSpec := { name := "fnExactBallLine", fn := fun _ => fun
  | [d1, d2, d3] => { results := [.lit (.bool false)], args := [d1, d2, d3] }
  | _ => none }
def FnExactBallLineWrongFalsely : Prop := fnExactBallLineRow.holds Tryd.pinned (OpenSpec.ofChange fnExactBallLineWrong)

/-- 'laws.FnExactFormatCylinder': WHATEVER THE INPUT: true; the input reads as it did. -/
def fnExactFormatCylinderSpec : ChangeSpec := { name := "fnExactFormatCylinder", fn := fun _ => fun
  | [d] => { results := [.lit (.bool true)], args := [d] }
  | _ => none }
def fnExactFormatCylinderRow : OpenClaim := { program := "ytnoopmbhdlfkbaadoor", sum := "759dcf8e34c86a1a2d3e6c064275fb9a029ee71ae5a0974046e4dc64f7fdfc30", func := "loop.example/g00928/laws.FnExactFormatCylinder", spec := "fnExactFormatCylinder", recurses := true, named := ["internal/strconv.uint64pow10", "math/bits.deBruijn32tab", "math/bits.deBruijn64tab"], apart := false, laid := [("math/bits.deBruijn32tab", laid_math_bits_deBruijn32tab), ("math/bits.deBruijn64tab", laid_math_bits_deBruijn64tab), ("internal/strconv.uint64pow10", laid_internal_strconv_uint64pow10)] }
def FnExactFormatCylinderSaid : Prop := fnExactFormatCylinderRow.holds Tryd.pinned (OpenSpec.ofChange fnExactFormatCylinderSpec)

/-- ITS FALSE NEIGHBOUR: 'it returns false'. Refute it at one input. -/
def fnExactFormatCylinderWrong : ChangeSpec := { name := "fnExactFormatCylinder", fn := fun _ => fun
  | [d] => { results := [.lit (.bool false)], args := [d] }
  | _ => none }
def FnExactFormatCylinderWrongFalsely : Prop := fnExactFormatCylinderRow.holds Tryd.pinned (OpenSpec.ofChange fnExactFormatCylinderWrong)

/-- 'laws.FnExactFormatRatio': WHATEVER THE INPUT: true; the input reads as it did. -/
def fnExactFormatRatioSpec : ChangeSpec := { name := "fnExactFormatRatio", fn := fun _ => fun
  | [d] => { results := [.lit (.bool true)], args := [d] }
  | _ => none }
def fnExactFormatRatioRow : OpenClaim := { program := "ytnoopmbhdlfkbaadoor", sum := "759dcf8e34c86a1a2d3e6c064275fb9a029ee71ae5a0974046e4dc64f7fdfc30", func := "loop.example/g00928/laws.FnExactFormatRatio", spec := "fnExactFormatRatio", recurses := true, named := ["internal/strconv.uint64pow10", "math/bits.deBruijn32tab", "math/bits.deBruijn64tab"], apart := false, laid := [("math/bits.deBruijn32tab", laid_math_bits_deBruijn32tab), ("math/bits.deBruijn64tab", laid_math_bits_deBruijn64tab), ("internal/strconv.uint64pow10", laid_internal_strconv_uint64pow10)] }
def FnExactFormatRatioSaid : Prop := fnExactFormatRatioRow.holds Tryd.pinned (OpenSpec.ofChange fnExactFormatRatioSpec)

/-- ITS FALSE NEIGHBOUR: 'it returns false'. Refute it at one input. -/
def fnExactFormatRatioWrong : ChangeSpec := { name := "fnExactFormatRatio", fn := fun _ => fun
  | [d] => { results := [.lit (.bool false)], args := [d] }
  | _ => none }
def FnExactFormatRatioWrongFalsely : Prop := fnExactFormatRatioRow.holds Tryd.pinned (OpenSpec.ofChange fnExactFormatRatioWrong)

/-- 'laws.FnExactFormatMatrix': WHATEVER THE INPUT: true; the input reads as it did. -/
def fnExactFormatMatrixSpec : ChangeSpec := { name := "fnExactFormatMatrix", fn := fun _ => fun
  | [d] => { results := [.lit (.bool true)], args := [d] }
  | _ => none }
def fnExactFormatMatrixRow : OpenClaim := { program := "ytnoopmbhdlfkbaadoor", sum := "759dcf8e34c86a1a2d3e6c064275fb9a029ee71ae5a0974046e4dc64f7fdfc30", func := "loop.example/g00928/laws.FnExactFormatMatrix", spec := "fnExactFormatMatrix", inPlace := ["internal/abi.NoEscape", "internal/bytealg.MakeNoZero"], recurses := true, named := ["internal/strconv.uint64pow10", "math/bits.deBruijn32tab", "math/bits.deBruijn64tab"], apart := false, laid := [("math/bits.deBruijn32tab", laid_math_bits_deBruijn32tab), ("math/bits.deBruijn64tab", laid_math_bits_deBruijn64tab), ("internal/strconv.uint64pow10", laid_internal_strconv_uint64pow10)] }
def FnExactFormatMatrixSaid : Prop := fnExactFormatMatrixRow.holds Tryd.pinned (OpenSpec.ofChange fnExactFormatMatrixSpec)

/-- ITS FALSE NEIGHBOUR: 'it returns false'. Refute it at one input. -/
def fnExactFormatMatrixWrong : ChangeSpec := { name := "fnExactFormatMatrix", fn := fun _ => fun
  | [d] => { results := [.lit (.bool false)], args := [d] }
  | _ => none }
def FnExactFormatMatrixWrongFalsely : Prop := fnExactFormatMatrixRow.holds Tryd.pinned (OpenSpec.ofChange fnExactFormatMatrixWrong)

/-- 'laws.FnExactFormatList': WHATEVER THE INPUT: true; the input reads as it did. -/
def fnExactFormatListSpec : ChangeSpec := { name := "fnExactFormatList", fn := fun _ => fun
  | [d] => { results := [.lit (.bool true)], args := [d] }
  | _ => none }
def fnExactFormatListRow : OpenClaim := { program := "ytnoopmbhdlfkbaadoor", sum := "759dcf8e34c86a1a2d3e6c064275fb9a029ee71ae5a0974046e4dc64f7fdfc30", func := "loop.example/g00928/laws.FnExactFormatList", spec := "fnExactFormatList", inPlace := ["internal/abi.NoEscape", "internal/bytealg.MakeNoZero"], recurses := true, named := ["internal/strconv.uint64pow10", "math/bits.deBruijn32tab", "math/bits.deBruijn64tab"], apart := false, laid := [("math/bits.deBruijn32tab", laid_math_bits_deBruijn32tab), ("math/bits.deBruijn64tab", laid_math_bits_deBruijn64tab), ("internal/strconv.uint64pow10", laid_internal_strconv_uint64pow10)] }
def FnExactFormatListSaid : Prop := fnExactFormatListRow.holds Tryd.pinned (OpenSpec.ofChange fnExactFormatListSpec)

/-- ITS FALSE NEIGHBOUR: 'it returns false'. Refute it at one input. -/
def fnExactFormatListWrong : ChangeSpec := { name := "fnExactFormatList", fn := fun _ => fun
  | [d] => { results := [.lit (.bool false)], args := [d] }
  | _ => none }
def FnExactFormatListWrongFalsely : Prop := fnExactFormatListRow.holds Tryd.pinned (OpenSpec.ofChange fnExactFormatListWrong)

/-- 'laws.FnExactCylinderLine': WHATEVER THE INPUT: true; the input reads as it did. -/
def fnExactCylinderLineSpec : ChangeSpec := { name := "fnExactCylinderLine", fn := fun _ => fun
  | [d] => { results := [.lit (.bool true)], args := [d] }
  | _ => none }
def fnExactCylinderLineRow : OpenClaim := { program := "ytnoopmbhdlfkbaadoor", sum := "759dcf8e34c86a1a2d3e6c064275fb9a029ee71ae5a0974046e4dc64f7fdfc30", func := "loop.example/g00928/laws.FnExactCylinderLine", spec := "fnExactCylinderLine", inPlace := ["internal/abi.NoEscape", "internal/bytealg.MakeNoZero"], recurses := true, named := ["internal/strconv.uint64pow10", "math/bits.deBruijn32tab", "math/bits.deBruijn64tab"], apart := false, laid := [("math/bits.deBruijn32tab", laid_math_bits_deBruijn32tab), ("math/bits.deBruijn64tab", laid_math_bits_deBruijn64tab), ("internal/strconv.uint64pow10", laid_internal_strconv_uint64pow10)] }
def FnExactCylinderLineSaid : Prop := fnExactCylinderLineRow.holds Tryd.pinned (OpenSpec.ofChange fnExactCylinderLineSpec)

/-- ITS FALSE NEIGHBOUR: 'it returns false'. Refute it at one input. -/
def fnExactCylinderLineWrong : ChangeSpec := { name := "fnExactCylinderLine", fn := fun _ => fun
  | [d] => { results := [.lit (.bool false)], args := [d] }
  | _ => none }
def FnExactCylinderLineWrongFalsely : Prop := fnExactCylinderLineRow.holds Tryd.pinned (OpenSpec.ofChange fnExactCylinderLineWrong)

/-- 'laws.FnMatrices': WHATEVER THE INPUT: true; the input reads as it did. -/
def fnMatricesSpec : ChangeSpec := { name := "fnMatrices", fn := fun _ => fun
  | [d] => { results := [.lit (.bool true)], args := [d] }
  | _ => none }
def fnMatricesRow : OpenClaim := { program := "ytnoopmbhdlfkbaadoor", sum := "759dcf8e34c86a1a2d3e6c064275fb9a029ee71ae5a0974046e4dc64f7fdfc30", func := "loop.example/g00928/laws.FnMatrices", spec := "fnMatrices", inPlace := ["internal/bytealg.IndexByteString", "internal/abi.NoEscape", "internal/bytealg.MakeNoZero"], named := ["internal/strconv.uint64pow10", "math/bits.deBruijn32tab", "math/bits.deBruijn64tab"], apart := false, laid := [("math/bits.deBruijn32tab", laid_math_bits_deBruijn32tab), ("math/bits.deBruijn64tab", laid_math_bits_deBruijn64tab), ("internal/strconv.uint64pow10", laid_internal_strconv_uint64pow10)] }
def FnMatricesSaid : Prop := fnMatricesRow.holds Tryd.pinned (OpenSpec.ofChange fnMatricesSpec)

/-- ITS FALSE NEIGHBOUR: 'it returns false'. Refute it at one input. -/
def fnMatricesWrong : ChangeSpec := { name := "fnMatrices", fn := fun _ => fun
  | [d] => { results := [.lit (.bool false)], args := [d] }
  | _ => none }
def FnMatricesWrongFalsely : Prop := fnMatricesRow.holds Tryd.pinned (OpenSpec.ofChange fnMatricesWrong)

/-- 'laws.FnExactFormatPerm': WHATEVER THE INPUT: true; the input reads as it did. -/
def fnExactFormatPermSpec : ChangeSpec := { name := "fnExactFormatPerm", fn := fun _ => fun
  | [d] => { results := [.lit (.bool true)], args := [d] }
  | _ => none }
def fnExactFormatPermRow : OpenClaim := { program := "ytnoopmbhdlfkbaadoor", sum := "759dcf8e34c86a1a2d3e6c064275fb9a029ee71ae5a0974046e4dc64f7fdfc30", func := "loop.example/g00928/laws.FnExactFormatPerm", spec := "fnExactFormatPerm", inPlace := ["internal/abi.NoEscape", "internal/bytealg.MakeNoZero"], recurses := true, named := ["internal/strconv.uint64pow10", "math/bits.deBruijn32tab", "math/bits.deBruijn64tab"], apart := false, laid := [("math/bits.deBruijn32tab", laid_math_bits_deBruijn32tab), ("math/bits.deBruijn64tab", laid_math_bits_deBruijn64tab), ("internal/strconv.uint64pow10", laid_internal_strconv_uint64pow10)] }
def FnExactFormatPermSaid : Prop := fnExactFormatPermRow.holds Tryd.pinned (OpenSpec.ofChange fnExactFormatPermSpec)

/-- ITS FALSE NEIGHBOUR: 'it returns false'. Refute it at one input. -/
def fnExactFormatPermWrong : ChangeSpec := { name := "fnExactFormatPerm", fn := fun _ => fun
  | [d] => { results := [.lit (.bool false)], args := [d] }
  | _ => none }
def FnExactFormatPermWrongFalsely : Prop := fnExactFormatPermRow.holds Tryd.pinned (OpenSpec.ofChange fnExactFormatPermWrong)

/-- 'laws.FnExactFormatTable': WHATEVER THE INPUT: true; the input reads as it did. -/
def fnExactFormatTableSpec : ChangeSpec := { name := "fnExactFormatTable", fn := fun _ => fun
  | [d] => { results := [.lit (.bool true)], args := [d] }
  | _ => none }
def fnExactFormatTableRow : OpenClaim := { program := "ytnoopmbhdlfkbaadoor", sum := "759dcf8e34c86a1a2d3e6c064275fb9a029ee71ae5a0974046e4dc64f7fdfc30", func := "loop.example/g00928/laws.FnExactFormatTable", spec := "fnExactFormatTable", inPlace := ["internal/abi.NoEscape", "internal/bytealg.MakeNoZero"], recurses := true, named := ["internal/strconv.uint64pow10", "math/bits.deBruijn32tab", "math/bits.deBruijn64tab"], apart := false, laid := [("math/bits.deBruijn32tab", laid_math_bits_deBruijn32tab), ("math/bits.deBruijn64tab", laid_math_bits_deBruijn64tab), ("internal/strconv.uint64pow10", laid_internal_strconv_uint64pow10)] }
def FnExactFormatTableSaid : Prop := fnExactFormatTableRow.holds Tryd.pinned (OpenSpec.ofChange fnExactFormatTableSpec)

/-- ITS FALSE NEIGHBOUR: 'it returns false'. Refute it at one input. -/
def fnExactFormatTableWrong : ChangeSpec := { name := "fnExactFormatTable", fn := fun _ => fun
  | [d] => { results := [.lit (.bool false)], args := [d] }
  | _ => none }
def FnExactFormatTableWrongFalsely : Prop := fnExactFormatTableRow.holds Tryd.pinned (OpenSpec.ofChange fnExactFormatTableWrong)

/-- 'laws.FnExactFormatSurface': WHATEVER THE INPUT: true; the input reads as it did. -/
def fnExactFormatSurfaceSpec : ChangeSpec := { name := "fnExactFormatSurface", fn := fun _ => fun
  | [d] => { results := [.lit (.bool true)], args := [d] }
  | _ => none }
def fnExactFormatSurfaceRow : OpenClaim := { program := "ytnoopmbhdlfkbaadoor", sum := "759dcf8e34c86a1a2d3e6c064275fb9a029ee71ae5a0974046e4dc64f7fdfc30", func := "loop.example/g00928/laws.FnExactFormatSurface", spec := "fnExactFormatSurface", inPlace := ["internal/abi.NoEscape", "internal/bytealg.MakeNoZero"], recurses := true, named := ["internal/strconv.uint64pow10", "math/bits.deBruijn32tab", "math/bits.deBruijn64tab"], apart := false, laid := [("math/bits.deBruijn32tab", laid_math_bits_deBruijn32tab), ("math/bits.deBruijn64tab", laid_math_bits_deBruijn64tab), ("internal/strconv.uint64pow10", laid_internal_strconv_uint64pow10)] }
def FnExactFormatSurfaceSaid : Prop := fnExactFormatSurfaceRow.holds Tryd.pinned (OpenSpec.ofChange fnExactFormatSurfaceSpec)

/-- ITS FALSE NEIGHBOUR: 'it returns false'. Refute it at one input. -/
def fnExactFormatSurfaceWrong : ChangeSpec := { name := "fnExactFormatSurface", fn := fun _ => fun
  | [d] => { results := [.lit (.bool false)], args := [d] }
  | _ => none }
def FnExactFormatSurfaceWrongFalsely : Prop := fnExactFormatSurfaceRow.holds Tryd.pinned (OpenSpec.ofChange fnExactFormatSurfaceWrong)

/- THE SECOND FORM. 'bulk': how many values and letters a reading holds, each counted each time it is reached (what is shared counts as often as it is met; a slice's spare places count too). A statement '..UptoSaid' is the law's where the arguments, and the package variables that the reading takes, are together of bulk at most 1048576: NARROWER than '..Said'. Prove '..Said' where nothing that the law and all that it calls make is longer than what came in: it says more and counts as full. Else prove '..UptoSaid'. A law counts once. -/
mutual
def uptoBulk {H : Type} : DataW H → Nat
  | .lit (.string bytes) => bytes.length + 1
  | .lit _ => 1
  | .nil => 1
  | .ptr d => uptoBulk d + 1
  | .slice elems spare => uptoBulkAll elems + uptoBulkAll spare + 1
  | .agg parts => uptoBulkAll parts + 1
  | .iface _ d => uptoBulk d + 1
  | .map entries => uptoBulkEntries entries + 1
  | .held _ => 1
def uptoBulkAll {H : Type} : List (DataW H) → Nat
  | [] => 0
  | d :: r => uptoBulk d + uptoBulkAll r
def uptoBulkEntries {H : Type} : List (Lit × DataW H) → Nat
  | [] => 0
  | x :: r => uptoBulkEntry x + uptoBulkEntries r
def uptoBulkEntry {H : Type} : Lit × DataW H → Nat
  | (.string bytes, d) => bytes.length + uptoBulk d + 1
  | (_, d) => uptoBulk d + 1
 end
def uptoSmall : (H : Type) → List (DataW H) → Bool := fun _ ds => decide (uptoBulkAll ds ≤ 1048576)
def OpenSpec.upto (s : _root_.Go.ChangeSpec) : _root_.Go.OpenSpec := { _root_.Go.OpenSpec.ofChange s with cond := some uptoSmall }

/-- 'laws.FnCornersHit', WHERE WHAT IT READS IS OF BULK AT MOST 1048576: true; the input reads as it did. -/
def fnCornersHitUptoRow : OpenClaim := { program := "ytnoopmbhdlfkbaadoor", sum := "759dcf8e34c86a1a2d3e6c064275fb9a029ee71ae5a0974046e4dc64f7fdfc30", func := "loop.example/g00928/laws.FnCornersHit", spec := "fnCornersHit", named := ["internal/strconv.uint64pow10", "math/bits.deBruijn32tab", "math/bits.deBruijn64tab"], apart := false, laid := [("math/bits.deBruijn32tab", laid_math_bits_deBruijn32tab), ("math/bits.deBruijn64tab", laid_math_bits_deBruijn64tab), ("internal/strconv.uint64pow10", laid_internal_strconv_uint64pow10)], narrowed := true }
def FnCornersHitUptoSaid : Prop := fnCornersHitUptoRow.holds Tryd.pinned (OpenSpec.upto fnCornersHitSpec)

/-- 'laws.FnExactBallLine', WHERE WHAT IT READS IS OF BULK AT MOST 1048576: true; the input reads as it did. -/
def fnExactBallLineUptoRow : OpenClaim := { program := "ytnoopmbhdlfkbaadoor", sum := "759dcf8e34c86a1a2d3e6c064275fb9a029ee71ae5a0974046e4dc64f7fdfc30", func := "loop.example/g00928/laws.FnExactBallLine", spec := "fnExactBallLine", recurses := true, named := ["internal/strconv.uint64pow10", "math/bits.deBruijn32tab", "math/bits.deBruijn64tab"], apart := false, laid := [("math/bits.deBruijn32tab", laid_math_bits_deBruijn32tab), ("math/bits.deBruijn64tab", laid_math_bits_deBruijn64tab), ("internal/strconv.uint64pow10", laid_internal_strconv_uint64pow10)], narrowed := true }
def FnExactBallLineUptoSaid : Prop := fnExactBallLineUptoRow.holds Tryd.pinned (OpenSpec.upto fnExactBallLineSpec)

/-- 'laws.FnExactFormatCylinder', WHERE WHAT IT READS IS OF BULK AT MOST 1048576: true; the input reads as it did. -/
def fnExactFormatCylinderUptoRow : OpenClaim := { program := "ytnoopmbhdlfkbaadoor", sum := "759dcf8e34c86a1a2d3e6c064275fb9a029ee71ae5a0974046e4dc64f7fdfc30", func := "loop.example/g00928/laws.FnExactFormatCylinder", spec := "fnExactFormatCylinder", recurses := true, named := ["internal/strconv.uint64pow10", "math/bits.deBruijn32tab", "math/bits.deBruijn64tab"], apart := false, laid := [("math/bits.deBruijn32tab", laid_math_bits_deBruijn32tab), ("math/bits.deBruijn64tab", laid_math_bits_deBruijn64tab), ("internal/strconv.uint64pow10", laid_internal_strconv_uint64pow10)], narrowed := true }
def FnExactFormatCylinderUptoSaid : Prop := fnExactFormatCylinderUptoRow.holds Tryd.pinned (OpenSpec.upto fnExactFormatCylinderSpec)

/-- 'laws.FnExactFormatRatio', WHERE WHAT IT READS IS OF BULK AT MOST 1048576: true; the input reads as it did. -/
def fnExactFormatRatioUptoRow : OpenClaim := { program := "ytnoopmbhdlfkbaadoor", sum := "759dcf8e34c86a1a2d3e6c064275fb9a029ee71ae5a0974046e4dc64f7fdfc30", func := "loop.example/g00928/laws.FnExactFormatRatio", spec := "fnExactFormatRatio", recurses := true, named := ["internal/strconv.uint64pow10", "math/bits.deBruijn32tab", "math/bits.deBruijn64tab"], apart := false, laid := [("math/bits.deBruijn32tab", laid_math_bits_deBruijn32tab), ("math/bits.deBruijn64tab", laid_math_bits_deBruijn64tab), ("internal/strconv.uint64pow10", laid_internal_strconv_uint64pow10)], narrowed := true }
def FnExactFormatRatioUptoSaid : Prop := fnExactFormatRatioUptoRow.holds Tryd.pinned (OpenSpec.upto fnExactFormatRatioSpec)

/-- 'laws.FnExactFormatMatrix', WHERE WHAT IT READS IS OF BULK AT MOST 1048576: true; the input reads as it did. -/
def fnExactFormatMatrixUptoRow : OpenClaim := { program := "ytnoopmbhdlfkbaadoor", sum := "759dcf8e34c86a1a2d3e6c064275fb9a029ee71ae5a0974046e4dc64f7fdfc30", func := "loop.example/g00928/laws.FnExactFormatMatrix", spec := "fnExactFormatMatrix", inPlace := ["internal/abi.NoEscape", "internal/bytealg.MakeNoZero"], recurses := true, named := ["internal/strconv.uint64pow10", "math/bits.deBruijn32tab", "math/bits.deBruijn64tab"], apart := false, laid := [("math/bits.deBruijn32tab", laid_math_bits_deBruijn32tab), ("math/bits.deBruijn64tab", laid_math_bits_deBruijn64tab), ("internal/strconv.uint64pow10", laid_internal_strconv_uint64pow10)], narrowed := true }
def FnExactFormatMatrixUptoSaid : Prop := fnExactFormatMatrixUptoRow.holds Tryd.pinned (OpenSpec.upto fnExactFormatMatrixSpec)

/-- 'laws.FnExactFormatList', WHERE WHAT IT READS IS OF BULK AT MOST 1048576: true; the input reads as it did. -/
def fnExactFormatListUptoRow : OpenClaim := { program := "ytnoopmbhdlfkbaadoor", sum := "759dcf8e34c86a1a2d3e6c064275fb9a029ee71ae5a0974046e4dc64f7fdfc30", func := "loop.example/g00928/laws.FnExactFormatList", spec := "fnExactFormatList", inPlace := ["internal/abi.NoEscape", "internal/bytealg.MakeNoZero"], recurses := true, named := ["internal/strconv.uint64pow10", "math/bits.deBruijn32tab", "math/bits.deBruijn64tab"], apart := false, laid := [("math/bits.deBruijn32tab", laid_math_bits_deBruijn32tab), ("math/bits.deBruijn64tab", laid_math_bits_deBruijn64tab), ("internal/strconv.uint64pow10", laid_internal_strconv_uint64pow10)], narrowed := true }
def FnExactFormatListUptoSaid : Prop := fnExactFormatListUptoRow.holds Tryd.pinned (OpenSpec.upto fnExactFormatListSpec)

/-- 'laws.FnExactCylinderLine', WHERE WHAT IT READS IS OF BULK AT MOST 1048576: true; the input reads as it did. -/
def fnExactCylinderLineUptoRow : OpenClaim := { program := "ytnoopmbhdlfkbaadoor", sum := "759dcf8e34c86a1a2d3e6c064275fb9a029ee71ae5a0974046e4dc64f7fdfc30", func := "loop.example/g00928/laws.FnExactCylinderLine", spec := "fnExactCylinderLine", inPlace := ["internal/abi.NoEscape", "internal/bytealg.MakeNoZero"], recurses := true, named := ["internal/strconv.uint64pow10", "math/bits.deBruijn32tab", "math/bits.deBruijn64tab"], apart := false, laid := [("math/bits.deBruijn32tab", laid_math_bits_deBruijn32tab), ("math/bits.deBruijn64tab", laid_math_bits_deBruijn64tab), ("internal/strconv.uint64pow10", laid_internal_strconv_uint64pow10)], narrowed := true }
def FnExactCylinderLineUptoSaid : Prop := fnExactCylinderLineUptoRow.holds Tryd.pinned (OpenSpec.upto fnExactCylinderLineSpec)

/-- 'laws.FnMatrices', WHERE WHAT IT READS IS OF BULK AT MOST 1048576: true; the input reads as it did. -/
def fnMatricesUptoRow : OpenClaim := { program := "ytnoopmbhdlfkbaadoor", sum := "759dcf8e34c86a1a2d3e6c064275fb9a029ee71ae5a0974046e4dc64f7fdfc30", func := "loop.example/g00928/laws.FnMatrices", spec := "fnMatrices", inPlace := ["internal/bytealg.IndexByteString", "internal/abi.NoEscape", "internal/bytealg.MakeNoZero"], named := ["internal/strconv.uint64pow10", "math/bits.deBruijn32tab", "math/bits.deBruijn64tab"], apart := false, laid := [("math/bits.deBruijn32tab", laid_math_bits_deBruijn32tab), ("math/bits.deBruijn64tab", laid_math_bits_deBruijn64tab), ("internal/strconv.uint64pow10", laid_internal_strconv_uint64pow10)], narrowed := true }
def FnMatricesUptoSaid : Prop := fnMatricesUptoRow.holds Tryd.pinned (OpenSpec.upto fnMatricesSpec)

/-- 'laws.FnExactFormatPerm', WHERE WHAT IT READS IS OF BULK AT MOST 1048576: true; the input reads as it did. -/
def fnExactFormatPermUptoRow : OpenClaim := { program := "ytnoopmbhdlfkbaadoor", sum := "759dcf8e34c86a1a2d3e6c064275fb9a029ee71ae5a0974046e4dc64f7fdfc30", func := "loop.example/g00928/laws.FnExactFormatPerm", spec := "fnExactFormatPerm", inPlace := ["internal/abi.NoEscape", "internal/bytealg.MakeNoZero"], recurses := true, named := ["internal/strconv.uint64pow10", "math/bits.deBruijn32tab", "math/bits.deBruijn64tab"], apart := false, laid := [("math/bits.deBruijn32tab", laid_math_bits_deBruijn32tab), ("math/bits.deBruijn64tab", laid_math_bits_deBruijn64tab), ("internal/strconv.uint64pow10", laid_internal_strconv_uint64pow10)], narrowed := true }
def FnExactFormatPermUptoSaid : Prop := fnExactFormatPermUptoRow.holds Tryd.pinned (OpenSpec.upto fnExactFormatPermSpec)

/-- 'laws.FnExactFormatTable', WHERE WHAT IT READS IS OF BULK AT MOST 1048576: true; the input reads as it did. -/
def fnExactFormatTableUptoRow : OpenClaim := { program := "ytnoopmbhdlfkbaadoor", sum := "759dcf8e34c86a1a2d3e6c064275fb9a029ee71ae5a0974046e4dc64f7fdfc30", func := "loop.example/g00928/laws.FnExactFormatTable", spec := "fnExactFormatTable", inPlace := ["internal/abi.NoEscape", "internal/bytealg.MakeNoZero"], recurses := true, named := ["internal/strconv.uint64pow10", "math/bits.deBruijn32tab", "math/bits.deBruijn64tab"], apart := false, laid := [("math/bits.deBruijn32tab", laid_math_bits_deBruijn32tab), ("math/bits.deBruijn64tab", laid_math_bits_deBruijn64tab), ("internal/strconv.uint64pow10", laid_internal_strconv_uint64pow10)], narrowed := true }
def FnExactFormatTableUptoSaid : Prop := fnExactFormatTableUptoRow.holds Tryd.pinned (OpenSpec.upto fnExactFormatTableSpec)

/-- 'laws.FnExactFormatSurface', WHERE WHAT IT READS IS OF BULK AT MOST 1048576: true; the input reads as it did. -/
def fnExactFormatSurfaceUptoRow : OpenClaim := { program := "ytnoopmbhdlfkbaadoor", sum := "759dcf8e34c86a1a2d3e6c064275fb9a029ee71ae5a0974046e4dc64f7fdfc30", func := "loop.example/g00928/laws.FnExactFormatSurface", spec := "fnExactFormatSurface", inPlace := ["internal/abi.NoEscape", "internal/bytealg.MakeNoZero"], recurses := true, named := ["internal/strconv.uint64pow10", "math/bits.deBruijn32tab", "math/bits.deBruijn64tab"], apart := false, laid := [("math/bits.deBruijn32tab", laid_math_bits_deBruijn32tab), ("math/bits.deBruijn64tab", laid_math_bits_deBruijn64tab), ("internal/strconv.uint64pow10", laid_internal_strconv_uint64pow10)], narrowed := true }
def FnExactFormatSurfaceUptoSaid : Prop := fnExactFormatSurfaceUptoRow.holds Tryd.pinned (OpenSpec.upto fnExactFormatSurfaceSpec)

end Rows
end Go.Proofs.YtnoopmbhdlfkbaaDoor
