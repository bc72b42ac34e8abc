/-
  NARROWER THAN 'FOR EVERY INPUT', by the rows' own cells (each row's printed sentence says how): FnLineShow: laid · FnLineRest: laid · FnExactLineShow: laid · FnExactStoreRun: laid · FnHistOk: laid · FnHistDo: laid.
  DERIVED. THE GIVEN ROWS OF THIS SEAT. 6 by the template 'for every input the law returns true; each argument reads behind the call as it read before'; 0 by the template 'total and deterministic' (their statements: YtadoojpcjfglgaaGreatDoorTotals.lean).
  GIVEN WITH THE SEED: the statements are not yours to turn. If you find one false, say at which input.
  Laid BY PROGRAM, IN A SANDBOX (cutbox-rows.mjs): the forced cells as the released guide's own fill.sh prints them over the translation 02496ca52a3816d3… (all of the seat's roots in one cut). By AI agents, Wed Nov 11 2026. No macro, syntax, notation, axiom, sorry.
-/
import Derived.Test.YtadoojpcjfglgaaGreatDoorChecked
import GoSem.Claim
import GoSem.ClaimJoined
import GoSem.ClaimMapViews
import Derived.JoinedTies
import Derived.KernelRfl
namespace Go.Proofs.YtadoojpcjfglgaaGreatDoor
/- THE CELL 'sum', in the pinned program and in every row, IS THE sha256 OF THE DUMP (.gsa) THAT YtadoojpcjfglgaaGreatDoorProg.lean LOADS. Nothing in Lean hashes anything: it is a label: what it is worth is what the hold of that sum in a sandbox is worth. -/
noncomputable def Tryz.pinned : Pinned := { name := "ytadoojpcjfglgaagreatdoor", sum := "02496ca52a3816d338965e6bdb71ec577c1e395e306b5648714ebc106adf73b7", checked := Tryz.checked }
namespace Rows
def none {H : Type} : Left H := { results := [], args := [] }

/- WHAT THE LISTED PACKAGE-LEVEL VARIABLES READ AS WHEN THE CALL BEGINS. Each datum BY PROGRAM (the guide's laid-datum.mjs) off the statement by which the dump's own 'gosem.cut.vars' lays the variable. In a bare row this is a premise. The card (YtadoojpcjfglgaaGreatDoorCards.lean) ties it to the program's text. -/
def laid_math_bits_deBruijn32tab {H : Type} : DataW H := .agg [.lit (.int .u8 0), .lit (.int .u8 1), .lit (.int .u8 28), .lit (.int .u8 2), .lit (.int .u8 29), .lit (.int .u8 14), .lit (.int .u8 24), .lit (.int .u8 3), .lit (.int .u8 30), .lit (.int .u8 22), .lit (.int .u8 20), .lit (.int .u8 15), .lit (.int .u8 25), .lit (.int .u8 17), .lit (.int .u8 4), .lit (.int .u8 8), .lit (.int .u8 31), .lit (.int .u8 27), .lit (.int .u8 13), .lit (.int .u8 23), .lit (.int .u8 21), .lit (.int .u8 19), .lit (.int .u8 16), .lit (.int .u8 7), .lit (.int .u8 26), .lit (.int .u8 12), .lit (.int .u8 18), .lit (.int .u8 6), .lit (.int .u8 11), .lit (.int .u8 5), .lit (.int .u8 10), .lit (.int .u8 9)]
def laid_math_bits_deBruijn64tab {H : Type} : DataW H := .agg [.lit (.int .u8 0), .lit (.int .u8 1), .lit (.int .u8 56), .lit (.int .u8 2), .lit (.int .u8 57), .lit (.int .u8 49), .lit (.int .u8 28), .lit (.int .u8 3), .lit (.int .u8 61), .lit (.int .u8 58), .lit (.int .u8 42), .lit (.int .u8 50), .lit (.int .u8 38), .lit (.int .u8 29), .lit (.int .u8 17), .lit (.int .u8 4), .lit (.int .u8 62), .lit (.int .u8 47), .lit (.int .u8 59), .lit (.int .u8 36), .lit (.int .u8 45), .lit (.int .u8 43), .lit (.int .u8 51), .lit (.int .u8 22), .lit (.int .u8 53), .lit (.int .u8 39), .lit (.int .u8 33), .lit (.int .u8 30), .lit (.int .u8 24), .lit (.int .u8 18), .lit (.int .u8 12), .lit (.int .u8 5), .lit (.int .u8 63), .lit (.int .u8 55), .lit (.int .u8 48), .lit (.int .u8 27), .lit (.int .u8 60), .lit (.int .u8 41), .lit (.int .u8 37), .lit (.int .u8 16), .lit (.int .u8 46), .lit (.int .u8 35), .lit (.int .u8 44), .lit (.int .u8 21), .lit (.int .u8 52), .lit (.int .u8 32), .lit (.int .u8 23), .lit (.int .u8 11), .lit (.int .u8 54), .lit (.int .u8 26), .lit (.int .u8 40), .lit (.int .u8 15), .lit (.int .u8 34), .lit (.int .u8 20), .lit (.int .u8 31), .lit (.int .u8 10), .lit (.int .u8 25), .lit (.int .u8 14), .lit (.int .u8 19), .lit (.int .u8 9), .lit (.int .u8 13), .lit (.int .u8 8), .lit (.int .u8 7), .lit (.int .u8 6)]
def laid_internal_strconv_uint64pow10 {H : Type} : DataW H := .agg [.lit (.int .u64 1), .lit (.int .u64 10), .lit (.int .u64 100), .lit (.int .u64 1000), .lit (.int .u64 10000), .lit (.int .u64 100000), .lit (.int .u64 1000000), .lit (.int .u64 10000000), .lit (.int .u64 100000000), .lit (.int .u64 1000000000), .lit (.int .u64 10000000000), .lit (.int .u64 100000000000), .lit (.int .u64 1000000000000), .lit (.int .u64 10000000000000), .lit (.int .u64 100000000000000), .lit (.int .u64 1000000000000000), .lit (.int .u64 10000000000000000), .lit (.int .u64 100000000000000000), .lit (.int .u64 1000000000000000000), .lit (.int .u64 10000000000000000000)]

/-- 'laws.FnLineShow': WHATEVER THE INPUT: true; the input reads as it did. -/
def fnLineShowSpec : ChangeSpec := { name := "fnLineShow", fn := fun _ => fun
  | [d] => { results := [.lit (.bool true)], args := [d] }
  | _ => none }
def fnLineShowRow : OpenClaim := { program := "ytadoojpcjfglgaagreatdoor", sum := "02496ca52a3816d338965e6bdb71ec577c1e395e306b5648714ebc106adf73b7", func := "loop.example/drawnanew/laws.FnLineShow", spec := "fnLineShow", recurses := true, named := ["internal/strconv.uint64pow10", "math/bits.deBruijn32tab", "math/bits.deBruijn64tab"], apart := false, laid := [("math/bits.deBruijn32tab", laid_math_bits_deBruijn32tab), ("math/bits.deBruijn64tab", laid_math_bits_deBruijn64tab), ("internal/strconv.uint64pow10", laid_internal_strconv_uint64pow10)] }
def FnLineShowSaid : Prop := fnLineShowRow.holds Tryz.pinned (OpenSpec.ofChange fnLineShowSpec)

/-- ITS FALSE NEIGHBOUR: 'it returns false'. Refute it at one input. -/
def fnLineShowWrong : ChangeSpec := { name := "fnLineShow", fn := fun _ => fun
  | [d] => { results := [.lit (.bool false)], args := [d] }
  | _ => none }
def FnLineShowWrongFalsely : Prop := fnLineShowRow.holds Tryz.pinned (OpenSpec.ofChange fnLineShowWrong)

/-- 'laws.FnLineRest': WHATEVER THE INPUT: true; the input reads as it did. -/
def fnLineRestSpec : ChangeSpec := { name := "fnLineRest", fn := fun _ => fun
  | [d] => { results := [.lit (.bool true)], args := [d] }
  | _ => none }
def fnLineRestRow : OpenClaim := { program := "ytadoojpcjfglgaagreatdoor", sum := "02496ca52a3816d338965e6bdb71ec577c1e395e306b5648714ebc106adf73b7", func := "loop.example/drawnanew/laws.FnLineRest", spec := "fnLineRest", recurses := true, named := ["internal/strconv.uint64pow10", "math/bits.deBruijn32tab", "math/bits.deBruijn64tab"], apart := false, laid := [("math/bits.deBruijn32tab", laid_math_bits_deBruijn32tab), ("math/bits.deBruijn64tab", laid_math_bits_deBruijn64tab), ("internal/strconv.uint64pow10", laid_internal_strconv_uint64pow10)] }
def FnLineRestSaid : Prop := fnLineRestRow.holds Tryz.pinned (OpenSpec.ofChange fnLineRestSpec)

/-- ITS FALSE NEIGHBOUR: 'it returns false'. Refute it at one input. -/
def fnLineRestWrong : ChangeSpec := { name := "fnLineRest", fn := fun _ => fun
  | [d] => { results := [.lit (.bool false)], args := [d] }
  | _ => none }
def FnLineRestWrongFalsely : Prop := fnLineRestRow.holds Tryz.pinned (OpenSpec.ofChange fnLineRestWrong)

/-- 'laws.FnExactLineShow': WHATEVER THE INPUT: true; the input reads as it did. -/
def fnExactLineShowSpec : ChangeSpec := { name := "fnExactLineShow", fn := fun _ => fun
  | [d1, d2] => { results := [.lit (.bool true)], args := [d1, d2] }
  | _ => none }
def fnExactLineShowRow : OpenClaim := { program := "ytadoojpcjfglgaagreatdoor", sum := "02496ca52a3816d338965e6bdb71ec577c1e395e306b5648714ebc106adf73b7", func := "loop.example/drawnanew/laws.FnExactLineShow", spec := "fnExactLineShow", recurses := true, named := ["internal/strconv.uint64pow10", "math/bits.deBruijn32tab", "math/bits.deBruijn64tab"], apart := false, laid := [("math/bits.deBruijn32tab", laid_math_bits_deBruijn32tab), ("math/bits.deBruijn64tab", laid_math_bits_deBruijn64tab), ("internal/strconv.uint64pow10", laid_internal_strconv_uint64pow10)] }
def FnExactLineShowSaid : Prop := fnExactLineShowRow.holds Tryz.pinned (OpenSpec.ofChange fnExactLineShowSpec)

/-- ITS FALSE NEIGHBOUR: 'it returns false'. Refute it at one input. -/
def fnExactLineShowWrong : ChangeSpec := { name := "fnExactLineShow", fn := fun _ => fun
  | [d1, d2] => { results := [.lit (.bool false)], args := [d1, d2] }
  | _ => none }
def FnExactLineShowWrongFalsely : Prop := fnExactLineShowRow.holds Tryz.pinned (OpenSpec.ofChange fnExactLineShowWrong)

/-- 'laws.FnExactStoreRun': WHATEVER THE INPUT: true; the input reads as it did. -/
def fnExactStoreRunSpec : ChangeSpec := { name := "fnExactStoreRun", fn := fun _ => fun
  | [d1, d2] => { results := [.lit (.bool true)], args := [d1, d2] }
  | _ => none }
def fnExactStoreRunRow : OpenClaim := { program := "ytadoojpcjfglgaagreatdoor", sum := "02496ca52a3816d338965e6bdb71ec577c1e395e306b5648714ebc106adf73b7", func := "loop.example/drawnanew/laws.FnExactStoreRun", spec := "fnExactStoreRun", recurses := true, named := ["internal/strconv.uint64pow10", "math/bits.deBruijn32tab", "math/bits.deBruijn64tab"], apart := false, laid := [("math/bits.deBruijn32tab", laid_math_bits_deBruijn32tab), ("math/bits.deBruijn64tab", laid_math_bits_deBruijn64tab), ("internal/strconv.uint64pow10", laid_internal_strconv_uint64pow10)] }
def FnExactStoreRunSaid : Prop := fnExactStoreRunRow.holds Tryz.pinned (OpenSpec.ofChange fnExactStoreRunSpec)

/-- ITS FALSE NEIGHBOUR: 'it returns false'. Refute it at one input. -/
def fnExactStoreRunWrong : ChangeSpec := { name := "fnExactStoreRun", fn := fun _ => fun
  | [d1, d2] => { results := [.lit (.bool false)], args := [d1, d2] }
  | _ => none }
def FnExactStoreRunWrongFalsely : Prop := fnExactStoreRunRow.holds Tryz.pinned (OpenSpec.ofChange fnExactStoreRunWrong)

/-- 'laws.FnHistOk': WHATEVER THE INPUT: true; the input reads as it did. -/
def fnHistOkSpec : ChangeSpec := { name := "fnHistOk", fn := fun _ => fun
  | [d] => { results := [.lit (.bool true)], args := [d] }
  | _ => none }
def fnHistOkRow : OpenClaim := { program := "ytadoojpcjfglgaagreatdoor", sum := "02496ca52a3816d338965e6bdb71ec577c1e395e306b5648714ebc106adf73b7", func := "loop.example/drawnanew/laws.FnHistOk", spec := "fnHistOk", recurses := true, named := ["internal/strconv.uint64pow10", "math/bits.deBruijn32tab", "math/bits.deBruijn64tab"], apart := false, laid := [("math/bits.deBruijn32tab", laid_math_bits_deBruijn32tab), ("math/bits.deBruijn64tab", laid_math_bits_deBruijn64tab), ("internal/strconv.uint64pow10", laid_internal_strconv_uint64pow10)] }
def FnHistOkSaid : Prop := fnHistOkRow.holds Tryz.pinned (OpenSpec.ofChange fnHistOkSpec)

/-- ITS FALSE NEIGHBOUR: 'it returns false'. Refute it at one input. -/
def fnHistOkWrong : ChangeSpec := { name := "fnHistOk", fn := fun _ => fun
  | [d] => { results := [.lit (.bool false)], args := [d] }
  | _ => none }
def FnHistOkWrongFalsely : Prop := fnHistOkRow.holds Tryz.pinned (OpenSpec.ofChange fnHistOkWrong)

/-- 'laws.FnHistDo': WHATEVER THE INPUT: true; the input reads as it did. -/
def fnHistDoSpec : ChangeSpec := { name := "fnHistDo", fn := fun _ => fun
  | [d] => { results := [.lit (.bool true)], args := [d] }
  | _ => none }
def fnHistDoRow : OpenClaim := { program := "ytadoojpcjfglgaagreatdoor", sum := "02496ca52a3816d338965e6bdb71ec577c1e395e306b5648714ebc106adf73b7", func := "loop.example/drawnanew/laws.FnHistDo", spec := "fnHistDo", recurses := true, named := ["internal/strconv.uint64pow10", "math/bits.deBruijn32tab", "math/bits.deBruijn64tab"], apart := false, laid := [("math/bits.deBruijn32tab", laid_math_bits_deBruijn32tab), ("math/bits.deBruijn64tab", laid_math_bits_deBruijn64tab), ("internal/strconv.uint64pow10", laid_internal_strconv_uint64pow10)] }
def FnHistDoSaid : Prop := fnHistDoRow.holds Tryz.pinned (OpenSpec.ofChange fnHistDoSpec)

/-- ITS FALSE NEIGHBOUR: 'it returns false'. Refute it at one input. -/
def fnHistDoWrong : ChangeSpec := { name := "fnHistDo", fn := fun _ => fun
  | [d] => { results := [.lit (.bool false)], args := [d] }
  | _ => none }
def FnHistDoWrongFalsely : Prop := fnHistDoRow.holds Tryz.pinned (OpenSpec.ofChange fnHistDoWrong)

/- THE SECOND FORM. 'bulk': how many values and letters a reading holds, each counted each time it is reached (what is shared counts as often as it is met; a slice's spare places count too). A statement '..UptoSaid' is the law's where the arguments, and the package variables that the reading takes, are together of bulk at most 1048576: NARROWER than '..Said'. Prove '..Said' where nothing that the law and all that it calls make is longer than what came in: it says more and counts as full. Else prove '..UptoSaid'. A law counts once. -/
mutual
def uptoBulk {H : Type} : DataW H → Nat
  | .lit (.string bytes) => bytes.length + 1
  | .lit _ => 1
  | .nil => 1
  | .ptr d => uptoBulk d + 1
  | .slice elems spare => uptoBulkAll elems + uptoBulkAll spare + 1
  | .agg parts => uptoBulkAll parts + 1
  | .iface _ d => uptoBulk d + 1
  | .map entries => uptoBulkEntries entries + 1
  | .held _ => 1
def uptoBulkAll {H : Type} : List (DataW H) → Nat
  | [] => 0
  | d :: r => uptoBulk d + uptoBulkAll r
def uptoBulkEntries {H : Type} : List (Lit × DataW H) → Nat
  | [] => 0
  | x :: r => uptoBulkEntry x + uptoBulkEntries r
def uptoBulkEntry {H : Type} : Lit × DataW H → Nat
  | (.string bytes, d) => bytes.length + uptoBulk d + 1
  | (_, d) => uptoBulk d + 1
 end
def uptoSmall : (H : Type) → List (DataW H) → Bool := fun _ ds => decide (uptoBulkAll ds ≤ 1048576)
def OpenSpec.upto (s : _root_.Go.ChangeSpec) : _root_.Go.OpenSpec := { _root_.Go.OpenSpec.ofChange s with cond := some uptoSmall }

/-- 'laws.FnLineShow', WHERE WHAT IT READS IS OF BULK AT MOST 1048576: true; the input reads as it did. -/
def fnLineShowUptoRow : OpenClaim := { program := "ytadoojpcjfglgaagreatdoor", sum := "02496ca52a3816d338965e6bdb71ec577c1e395e306b5648714ebc106adf73b7", func := "loop.example/drawnanew/laws.FnLineShow", spec := "fnLineShow", recurses := true, named := ["internal/strconv.uint64pow10", "math/bits.deBruijn32tab", "math/bits.deBruijn64tab"], apart := false, laid := [("math/bits.deBruijn32tab", laid_math_bits_deBruijn32tab), ("math/bits.deBruijn64tab", laid_math_bits_deBruijn64tab), ("internal/strconv.uint64pow10", laid_internal_strconv_uint64pow10)], narrowed := true }
def FnLineShowUptoSaid : Prop := fnLineShowUptoRow.holds Tryz.pinned (OpenSpec.upto fnLineShowSpec)

/-- 'laws.FnLineRest', WHERE WHAT IT READS IS OF BULK AT MOST 1048576: true; the input reads as it did. -/
def fnLineRestUptoRow : OpenClaim := { program := "ytadoojpcjfglgaagreatdoor", sum := "02496ca52a3816d338965e6bdb71ec577c1e395e306b5648714ebc106adf73b7", func := "loop.example/drawnanew/laws.FnLineRest", spec := "fnLineRest", recurses := true, named := ["internal/strconv.uint64pow10", "math/bits.deBruijn32tab", "math/bits.deBruijn64tab"], apart := false, laid := [("math/bits.deBruijn32tab", laid_math_bits_deBruijn32tab), ("math/bits.deBruijn64tab", laid_math_bits_deBruijn64tab), ("internal/strconv.uint64pow10", laid_internal_strconv_uint64pow10)], narrowed := true }
def FnLineRestUptoSaid : Prop := fnLineRestUptoRow.holds Tryz.pinned (OpenSpec.upto fnLineRestSpec)

/-- 'laws.FnExactLineShow', WHERE WHAT IT READS IS OF BULK AT MOST 1048576: true; the input reads as it did. -/
def fnExactLineShowUptoRow : OpenClaim := { program := "ytadoojpcjfglgaagreatdoor", sum := "02496ca52a3816d338965e6bdb71ec577c1e395e306b5648714ebc106adf73b7", func := "loop.example/drawnanew/laws.FnExactLineShow", spec := "fnExactLineShow", recurses := true, named := ["internal/strconv.uint64pow10", "math/bits.deBruijn32tab", "math/bits.deBruijn64tab"], apart := false, laid := [("math/bits.deBruijn32tab", laid_math_bits_deBruijn32tab), ("math/bits.deBruijn64tab", laid_math_bits_deBruijn64tab), ("internal/strconv.uint64pow10", laid_internal_strconv_uint64pow10)], narrowed := true }
def FnExactLineShowUptoSaid : Prop := fnExactLineShowUptoRow.holds Tryz.pinned (OpenSpec.upto fnExactLineShowSpec)

/-- 'laws.FnExactStoreRun', WHERE WHAT IT READS IS OF BULK AT MOST 1048576: true; the input reads as it did. -/
def fnExactStoreRunUptoRow : OpenClaim := { program := "ytadoojpcjfglgaagreatdoor", sum := "02496ca52a3816d338965e6bdb71ec577c1e395e306b5648714ebc106adf73b7", func := "loop.example/drawnanew/laws.FnExactStoreRun", spec := "fnExactStoreRun", recurses := true, named := ["internal/strconv.uint64pow10", "math/bits.deBruijn32tab", "math/bits.deBruijn64tab"], apart := false, laid := [("math/bits.deBruijn32tab", laid_math_bits_deBruijn32tab), ("math/bits.deBruijn64tab", laid_math_bits_deBruijn64tab), ("internal/strconv.uint64pow10", laid_internal_strconv_uint64pow10)], narrowed := true }
def FnExactStoreRunUptoSaid : Prop := fnExactStoreRunUptoRow.holds Tryz.pinned (OpenSpec.upto fnExactStoreRunSpec)

/-- 'laws.FnHistOk', WHERE WHAT IT READS IS OF BULK AT MOST 1048576: true; the input reads as it did. -/
def fnHistOkUptoRow : OpenClaim := { program := "ytadoojpcjfglgaagreatdoor", sum := "02496ca52a3816d338965e6bdb71ec577c1e395e306b5648714ebc106adf73b7", func := "loop.example/drawnanew/laws.FnHistOk", spec := "fnHistOk", recurses := true, named := ["internal/strconv.uint64pow10", "math/bits.deBruijn32tab", "math/bits.deBruijn64tab"], apart := false, laid := [("math/bits.deBruijn32tab", laid_math_bits_deBruijn32tab), ("math/bits.deBruijn64tab", laid_math_bits_deBruijn64tab), ("internal/strconv.uint64pow10", laid_internal_strconv_uint64pow10)], narrowed := true }
def FnHistOkUptoSaid : Prop := fnHistOkUptoRow.holds Tryz.pinned (OpenSpec.upto fnHistOkSpec)

/-- 'laws.FnHistDo', WHERE WHAT IT READS IS OF BULK AT MOST 1048576: true; the input reads as it did. -/
def fnHistDoUptoRow : OpenClaim := { program := "ytadoojpcjfglgaagreatdoor", sum := "02496ca52a3816d338965e6bdb71ec577c1e395e306b5648714ebc106adf73b7", func := "loop.example/drawnanew/laws.FnHistDo", spec := "fnHistDo", recurses := true, named := ["internal/strconv.uint64pow10", "math/bits.deBruijn32tab", "math/bits.deBruijn64tab"], apart := false, laid := [("math/bits.deBruijn32tab", laid_math_bits_deBruijn32tab), ("math/bits.deBruijn64tab", laid_math_bits_deBruijn64tab), ("internal/strconv.uint64pow10", laid_internal_strconv_uint64pow10)], narrowed := true }
def FnHistDoUptoSaid : Prop := fnHistDoUptoRow.holds Tryz.pinned (OpenSpec.upto fnHistDoSpec)

end Rows
end Go.Proofs.YtadoojpcjfglgaaGreatDoor
