/-
  NARROWER THAN 'FOR EVERY INPUT', by the rows' own cells (each row's printed sentence says how): FnExactFrmTake: laid · FnFrmBack: laid · FnFrmOnly: laid · FnExactLblText: laid · FnExactLblRead: laid · FnLblText: laid · FnExactCodLine: laid · FnExactCodRead: laid · FnCodParts: laid · FnCodText: laid.
  DERIVED. THE GIVEN ROWS OF THIS SEAT. 10 by the template 'for every input the law returns true; each argument reads behind the call as it read before'; 0 by the template 'total and deterministic' (their statements: YtiaokhgfolbhnaaDoorTotals.lean).
  GIVEN WITH THE SEED: the statements are not yours to turn. If you find one false, say at which input.
  Laid BY PROGRAM, IN A SANDBOX (cutbox-rows.mjs): the forced cells as the released guide's own fill.sh prints them over the translation 8342bfe2776ea14e… (all of the seat's roots in one cut). By AI agents, Wed Nov 11 2026. No macro, syntax, notation, axiom, sorry.
-/
import Derived.Test.YtiaokhgfolbhnaaDoorChecked
import GoSem.PinnedTables
import GoSem.Claim
import GoSem.ClaimJoined
import GoSem.ClaimMapViews
import Derived.JoinedTies
import Derived.KernelRfl
namespace Go.Proofs.YtiaokhgfolbhnaaDoor
/- THE CELL 'sum', in the pinned program and in every row, IS THE sha256 OF THE DUMP (.gsa) THAT YtiaokhgfolbhnaaDoorProg.lean LOADS. Nothing in Lean hashes anything: it is a label: what it is worth is what the hold of that sum in a sandbox is worth. -/
noncomputable def Tryd.pinned : Pinned := { name := "ytiaokhgfolbhnaadoor", sum := "8342bfe2776ea14ecd8f19eff781948c5c702f7f83a7a805ba10c5182d41c97d", checked := Tryd.checked }
namespace Rows
def none {H : Type} : Left H := { results := [], args := [] }

/- WHAT THE LISTED PACKAGE-LEVEL VARIABLES READ AS WHEN THE CALL BEGINS. Each datum BY PROGRAM (the guide's laid-datum.mjs) off the statement by which the dump's own 'gosem.cut.vars' lays the variable. In a bare row this is a premise. The card (YtiaokhgfolbhnaaDoorCards.lean) ties it to the program's text. -/
def laid_errors_errorType {H : Type} : DataW H := .iface "internal/reflectlite.rtype" (.agg [.ptr (.lit (.string [101, 114, 114, 111, 114]))])
def laid_math_bits_deBruijn32tab {H : Type} : DataW H := .agg [.lit (.int .u8 0), .lit (.int .u8 1), .lit (.int .u8 28), .lit (.int .u8 2), .lit (.int .u8 29), .lit (.int .u8 14), .lit (.int .u8 24), .lit (.int .u8 3), .lit (.int .u8 30), .lit (.int .u8 22), .lit (.int .u8 20), .lit (.int .u8 15), .lit (.int .u8 25), .lit (.int .u8 17), .lit (.int .u8 4), .lit (.int .u8 8), .lit (.int .u8 31), .lit (.int .u8 27), .lit (.int .u8 13), .lit (.int .u8 23), .lit (.int .u8 21), .lit (.int .u8 19), .lit (.int .u8 16), .lit (.int .u8 7), .lit (.int .u8 26), .lit (.int .u8 12), .lit (.int .u8 18), .lit (.int .u8 6), .lit (.int .u8 11), .lit (.int .u8 5), .lit (.int .u8 10), .lit (.int .u8 9)]
def laid_math_bits_deBruijn64tab {H : Type} : DataW H := .agg [.lit (.int .u8 0), .lit (.int .u8 1), .lit (.int .u8 56), .lit (.int .u8 2), .lit (.int .u8 57), .lit (.int .u8 49), .lit (.int .u8 28), .lit (.int .u8 3), .lit (.int .u8 61), .lit (.int .u8 58), .lit (.int .u8 42), .lit (.int .u8 50), .lit (.int .u8 38), .lit (.int .u8 29), .lit (.int .u8 17), .lit (.int .u8 4), .lit (.int .u8 62), .lit (.int .u8 47), .lit (.int .u8 59), .lit (.int .u8 36), .lit (.int .u8 45), .lit (.int .u8 43), .lit (.int .u8 51), .lit (.int .u8 22), .lit (.int .u8 53), .lit (.int .u8 39), .lit (.int .u8 33), .lit (.int .u8 30), .lit (.int .u8 24), .lit (.int .u8 18), .lit (.int .u8 12), .lit (.int .u8 5), .lit (.int .u8 63), .lit (.int .u8 55), .lit (.int .u8 48), .lit (.int .u8 27), .lit (.int .u8 60), .lit (.int .u8 41), .lit (.int .u8 37), .lit (.int .u8 16), .lit (.int .u8 46), .lit (.int .u8 35), .lit (.int .u8 44), .lit (.int .u8 21), .lit (.int .u8 52), .lit (.int .u8 32), .lit (.int .u8 23), .lit (.int .u8 11), .lit (.int .u8 54), .lit (.int .u8 26), .lit (.int .u8 40), .lit (.int .u8 15), .lit (.int .u8 34), .lit (.int .u8 20), .lit (.int .u8 31), .lit (.int .u8 10), .lit (.int .u8 25), .lit (.int .u8 14), .lit (.int .u8 19), .lit (.int .u8 9), .lit (.int .u8 13), .lit (.int .u8 8), .lit (.int .u8 7), .lit (.int .u8 6)]
def laid_internal_strconv_uint64pow10 {H : Type} : DataW H := .agg [.lit (.int .u64 1), .lit (.int .u64 10), .lit (.int .u64 100), .lit (.int .u64 1000), .lit (.int .u64 10000), .lit (.int .u64 100000), .lit (.int .u64 1000000), .lit (.int .u64 10000000), .lit (.int .u64 100000000), .lit (.int .u64 1000000000), .lit (.int .u64 10000000000), .lit (.int .u64 100000000000), .lit (.int .u64 1000000000000), .lit (.int .u64 10000000000000), .lit (.int .u64 100000000000000), .lit (.int .u64 1000000000000000), .lit (.int .u64 10000000000000000), .lit (.int .u64 100000000000000000), .lit (.int .u64 1000000000000000000), .lit (.int .u64 10000000000000000000)]
def laid_unicode_utf8_acceptRanges {H : Type} : DataW H := .agg [.agg [.lit (.int .u8 128), .lit (.int .u8 191)], .agg [.lit (.int .u8 160), .lit (.int .u8 191)], .agg [.lit (.int .u8 128), .lit (.int .u8 159)], .agg [.lit (.int .u8 144), .lit (.int .u8 191)], .agg [.lit (.int .u8 128), .lit (.int .u8 143)], .agg [.lit (.int .u8 0), .lit (.int .u8 0)], .agg [.lit (.int .u8 0), .lit (.int .u8 0)], .agg [.lit (.int .u8 0), .lit (.int .u8 0)], .agg [.lit (.int .u8 0), .lit (.int .u8 0)], .agg [.lit (.int .u8 0), .lit (.int .u8 0)], .agg [.lit (.int .u8 0), .lit (.int .u8 0)], .agg [.lit (.int .u8 0), .lit (.int .u8 0)], .agg [.lit (.int .u8 0), .lit (.int .u8 0)], .agg [.lit (.int .u8 0), .lit (.int .u8 0)], .agg [.lit (.int .u8 0), .lit (.int .u8 0)], .agg [.lit (.int .u8 0), .lit (.int .u8 0)]]
/-- One of Go's own tables, pinned by name: the form's constant. -/
def laid_unicode_utf8_first : DataW Unit := Go.Pinned.utf8First

/-- 'laws.FnExactFrmTake': WHATEVER THE INPUT: true; the input reads as it did. -/
def fnExactFrmTakeSpec : ChangeSpec := { name := "fnExactFrmTake", fn := fun _ => fun
  | [d] => { results := [.lit (.bool true)], args := [d] }
  | _ => none }
def fnExactFrmTakeRow : OpenClaim := { program := "ytiaokhgfolbhnaadoor", sum := "8342bfe2776ea14ecd8f19eff781948c5c702f7f83a7a805ba10c5182d41c97d", func := "loop.example/casemate/laws.FnExactFrmTake", spec := "fnExactFrmTake", inPlace := ["internal/reflectlite.ValueOf", "(internal/reflectlite.Value).Type", "(internal/reflectlite.Value).IsNil", "internal/reflectlite.TypeOf", "(internal/reflectlite.Value).Elem", "(internal/reflectlite.Value).Set"], unfollowed := true, recurses := true, named := ["errors.errorType"], apart := false, laid := [("errors.errorType", laid_errors_errorType)] }
def FnExactFrmTakeSaid : Prop := fnExactFrmTakeRow.holds Tryd.pinned (OpenSpec.ofChange fnExactFrmTakeSpec)

/-- ITS FALSE NEIGHBOUR: 'it returns false'. Refute it at one input. -/
def fnExactFrmTakeWrong : ChangeSpec := { name := "fnExactFrmTake", fn := fun _ => fun
  | [d] => { results := [.lit (.bool false)], args := [d] }
  | _ => none }
def FnExactFrmTakeWrongFalsely : Prop := fnExactFrmTakeRow.holds Tryd.pinned (OpenSpec.ofChange fnExactFrmTakeWrong)

/-- 'laws.FnFrmBack': WHATEVER THE INPUT: true; the input reads as it did. -/
def fnFrmBackSpec : ChangeSpec := { name := "fnFrmBack", fn := fun _ => fun
  | [d] => { results := [.lit (.bool true)], args := [d] }
  | _ => none }
def fnFrmBackRow : OpenClaim := { program := "ytiaokhgfolbhnaadoor", sum := "8342bfe2776ea14ecd8f19eff781948c5c702f7f83a7a805ba10c5182d41c97d", func := "loop.example/casemate/laws.FnFrmBack", spec := "fnFrmBack", inPlace := ["internal/reflectlite.ValueOf", "(internal/reflectlite.Value).Type", "(internal/reflectlite.Value).IsNil", "internal/reflectlite.TypeOf", "(internal/reflectlite.Value).Elem", "(internal/reflectlite.Value).Set"], unfollowed := true, recurses := true, named := ["errors.errorType"], apart := false, laid := [("errors.errorType", laid_errors_errorType)] }
def FnFrmBackSaid : Prop := fnFrmBackRow.holds Tryd.pinned (OpenSpec.ofChange fnFrmBackSpec)

/-- ITS FALSE NEIGHBOUR: 'it returns false'. Refute it at one input. -/
def fnFrmBackWrong : ChangeSpec := { name := "fnFrmBack", fn := fun _ => fun
  | [d] => { results := [.lit (.bool false)], args := [d] }
  | _ => none }
def FnFrmBackWrongFalsely : Prop := fnFrmBackRow.holds Tryd.pinned (OpenSpec.ofChange fnFrmBackWrong)

/-- 'laws.FnFrmOnly': WHATEVER THE INPUT: true; the input reads as it did. -/
def fnFrmOnlySpec : ChangeSpec := { name := "fnFrmOnly", fn := fun _ => fun
  | [d] => { results := [.lit (.bool true)], args := [d] }
  | _ => none }
def fnFrmOnlyRow : OpenClaim := { program := "ytiaokhgfolbhnaadoor", sum := "8342bfe2776ea14ecd8f19eff781948c5c702f7f83a7a805ba10c5182d41c97d", func := "loop.example/casemate/laws.FnFrmOnly", spec := "fnFrmOnly", inPlace := ["internal/reflectlite.ValueOf", "(internal/reflectlite.Value).Type", "(internal/reflectlite.Value).IsNil", "internal/reflectlite.TypeOf", "(internal/reflectlite.Value).Elem", "(internal/reflectlite.Value).Set"], unfollowed := true, recurses := true, named := ["errors.errorType"], apart := false, laid := [("errors.errorType", laid_errors_errorType)] }
def FnFrmOnlySaid : Prop := fnFrmOnlyRow.holds Tryd.pinned (OpenSpec.ofChange fnFrmOnlySpec)

/-- ITS FALSE NEIGHBOUR: 'it returns false'. Refute it at one input. -/
def fnFrmOnlyWrong : ChangeSpec := { name := "fnFrmOnly", fn := fun _ => fun
  | [d] => { results := [.lit (.bool false)], args := [d] }
  | _ => none }
def FnFrmOnlyWrongFalsely : Prop := fnFrmOnlyRow.holds Tryd.pinned (OpenSpec.ofChange fnFrmOnlyWrong)

/-- 'laws.FnExactLblText': WHATEVER THE INPUT: true; the input reads as it did. -/
def fnExactLblTextSpec : ChangeSpec := { name := "fnExactLblText", fn := fun _ => fun
  | [d] => { results := [.lit (.bool true)], args := [d] }
  | _ => none }
def fnExactLblTextRow : OpenClaim := { program := "ytiaokhgfolbhnaadoor", sum := "8342bfe2776ea14ecd8f19eff781948c5c702f7f83a7a805ba10c5182d41c97d", func := "loop.example/casemate/laws.FnExactLblText", spec := "fnExactLblText", named := ["internal/strconv.uint64pow10", "math/bits.deBruijn32tab", "math/bits.deBruijn64tab"], apart := false, laid := [("math/bits.deBruijn32tab", laid_math_bits_deBruijn32tab), ("math/bits.deBruijn64tab", laid_math_bits_deBruijn64tab), ("internal/strconv.uint64pow10", laid_internal_strconv_uint64pow10)] }
def FnExactLblTextSaid : Prop := fnExactLblTextRow.holds Tryd.pinned (OpenSpec.ofChange fnExactLblTextSpec)

/-- ITS FALSE NEIGHBOUR: 'it returns false'. Refute it at one input. -/
def fnExactLblTextWrong : ChangeSpec := { name := "fnExactLblText", fn := fun _ => fun
  | [d] => { results := [.lit (.bool false)], args := [d] }
  | _ => none }
def FnExactLblTextWrongFalsely : Prop := fnExactLblTextRow.holds Tryd.pinned (OpenSpec.ofChange fnExactLblTextWrong)

/-- 'laws.FnExactLblRead': WHATEVER THE INPUT: true; the input reads as it did. -/
def fnExactLblReadSpec : ChangeSpec := { name := "fnExactLblRead", fn := fun _ => fun
  | [d] => { results := [.lit (.bool true)], args := [d] }
  | _ => none }
def fnExactLblReadRow : OpenClaim := { program := "ytiaokhgfolbhnaadoor", sum := "8342bfe2776ea14ecd8f19eff781948c5c702f7f83a7a805ba10c5182d41c97d", func := "loop.example/casemate/laws.FnExactLblRead", spec := "fnExactLblRead", named := ["internal/strconv.uint64pow10", "math/bits.deBruijn32tab", "math/bits.deBruijn64tab"], apart := false, laid := [("math/bits.deBruijn32tab", laid_math_bits_deBruijn32tab), ("math/bits.deBruijn64tab", laid_math_bits_deBruijn64tab), ("internal/strconv.uint64pow10", laid_internal_strconv_uint64pow10)] }
def FnExactLblReadSaid : Prop := fnExactLblReadRow.holds Tryd.pinned (OpenSpec.ofChange fnExactLblReadSpec)

/-- ITS FALSE NEIGHBOUR: 'it returns false'. Refute it at one input. -/
def fnExactLblReadWrong : ChangeSpec := { name := "fnExactLblRead", fn := fun _ => fun
  | [d] => { results := [.lit (.bool false)], args := [d] }
  | _ => none }
def FnExactLblReadWrongFalsely : Prop := fnExactLblReadRow.holds Tryd.pinned (OpenSpec.ofChange fnExactLblReadWrong)

/-- 'laws.FnLblText': WHATEVER THE INPUT: true; the input reads as it did. -/
def fnLblTextSpec : ChangeSpec := { name := "fnLblText", fn := fun _ => fun
  | [d1, d2] => { results := [.lit (.bool true)], args := [d1, d2] }
  | _ => none }
def fnLblTextRow : OpenClaim := { program := "ytiaokhgfolbhnaadoor", sum := "8342bfe2776ea14ecd8f19eff781948c5c702f7f83a7a805ba10c5182d41c97d", func := "loop.example/casemate/laws.FnLblText", spec := "fnLblText", named := ["internal/strconv.uint64pow10", "math/bits.deBruijn32tab", "math/bits.deBruijn64tab"], apart := false, laid := [("math/bits.deBruijn32tab", laid_math_bits_deBruijn32tab), ("math/bits.deBruijn64tab", laid_math_bits_deBruijn64tab), ("internal/strconv.uint64pow10", laid_internal_strconv_uint64pow10)] }
def FnLblTextSaid : Prop := fnLblTextRow.holds Tryd.pinned (OpenSpec.ofChange fnLblTextSpec)

/-- ITS FALSE NEIGHBOUR: 'it returns false'. Refute it at one input. -/
def fnLblTextWrong : ChangeSpec := { name := "fnLblText", fn := fun _ => fun
  | [d1, d2] => { results := [.lit (.bool false)], args := [d1, d2] }
  | _ => none }
def FnLblTextWrongFalsely : Prop := fnLblTextRow.holds Tryd.pinned (OpenSpec.ofChange fnLblTextWrong)

/-- 'laws.FnExactCodLine': WHATEVER THE INPUT: true; the input reads as it did. -/
def fnExactCodLineSpec : ChangeSpec := { name := "fnExactCodLine", fn := fun _ => fun
  | [d] => { results := [.lit (.bool true)], args := [d] }
  | _ => none }
def fnExactCodLineRow : OpenClaim := { program := "ytiaokhgfolbhnaadoor", sum := "8342bfe2776ea14ecd8f19eff781948c5c702f7f83a7a805ba10c5182d41c97d", func := "loop.example/casemate/laws.FnExactCodLine", spec := "fnExactCodLine", named := ["internal/strconv.uint64pow10", "math/bits.deBruijn32tab", "math/bits.deBruijn64tab"], apart := false, laid := [("math/bits.deBruijn32tab", laid_math_bits_deBruijn32tab), ("math/bits.deBruijn64tab", laid_math_bits_deBruijn64tab), ("internal/strconv.uint64pow10", laid_internal_strconv_uint64pow10)] }
def FnExactCodLineSaid : Prop := fnExactCodLineRow.holds Tryd.pinned (OpenSpec.ofChange fnExactCodLineSpec)

/-- ITS FALSE NEIGHBOUR: 'it returns false'. Refute it at one input. -/
def fnExactCodLineWrong : ChangeSpec := { name := "fnExactCodLine", fn := fun _ => fun
  | [d] => { results := [.lit (.bool false)], args := [d] }
  | _ => none }
def FnExactCodLineWrongFalsely : Prop := fnExactCodLineRow.holds Tryd.pinned (OpenSpec.ofChange fnExactCodLineWrong)

/-- 'laws.FnExactCodRead': WHATEVER THE INPUT: true; the input reads as it did. -/
def fnExactCodReadSpec : ChangeSpec := { name := "fnExactCodRead", fn := fun _ => fun
  | [d] => { results := [.lit (.bool true)], args := [d] }
  | _ => none }
def fnExactCodReadRow : OpenClaim := { program := "ytiaokhgfolbhnaadoor", sum := "8342bfe2776ea14ecd8f19eff781948c5c702f7f83a7a805ba10c5182d41c97d", func := "loop.example/casemate/laws.FnExactCodRead", spec := "fnExactCodRead", inPlace := ["internal/bytealg.CountString", "internal/bytealg.IndexByteString", "internal/bytealg.IndexString"], named := ["unicode/utf8.first", "unicode/utf8.acceptRanges", "internal/bytealg.MaxLen"], apart := false, laid := [("unicode/utf8.acceptRanges", laid_unicode_utf8_acceptRanges), ("unicode/utf8.first", laid_unicode_utf8_first)] }
def FnExactCodReadSaid : Prop := fnExactCodReadRow.holds Tryd.pinned (OpenSpec.ofChange fnExactCodReadSpec)

/-- ITS FALSE NEIGHBOUR: 'it returns false'. Refute it at one input. -/
def fnExactCodReadWrong : ChangeSpec := { name := "fnExactCodRead", fn := fun _ => fun
  | [d] => { results := [.lit (.bool false)], args := [d] }
  | _ => none }
def FnExactCodReadWrongFalsely : Prop := fnExactCodReadRow.holds Tryd.pinned (OpenSpec.ofChange fnExactCodReadWrong)

/-- 'laws.FnCodParts': WHATEVER THE INPUT: true; the input reads as it did. -/
def fnCodPartsSpec : ChangeSpec := { name := "fnCodParts", fn := fun _ => fun
  | [d] => { results := [.lit (.bool true)], args := [d] }
  | _ => none }
def fnCodPartsRow : OpenClaim := { program := "ytiaokhgfolbhnaadoor", sum := "8342bfe2776ea14ecd8f19eff781948c5c702f7f83a7a805ba10c5182d41c97d", func := "loop.example/casemate/laws.FnCodParts", spec := "fnCodParts", named := ["internal/strconv.uint64pow10", "math/bits.deBruijn32tab", "math/bits.deBruijn64tab"], apart := false, laid := [("math/bits.deBruijn32tab", laid_math_bits_deBruijn32tab), ("math/bits.deBruijn64tab", laid_math_bits_deBruijn64tab), ("internal/strconv.uint64pow10", laid_internal_strconv_uint64pow10)] }
def FnCodPartsSaid : Prop := fnCodPartsRow.holds Tryd.pinned (OpenSpec.ofChange fnCodPartsSpec)

/-- ITS FALSE NEIGHBOUR: 'it returns false'. Refute it at one input. -/
def fnCodPartsWrong : ChangeSpec := { name := "fnCodParts", fn := fun _ => fun
  | [d] => { results := [.lit (.bool false)], args := [d] }
  | _ => none }
def FnCodPartsWrongFalsely : Prop := fnCodPartsRow.holds Tryd.pinned (OpenSpec.ofChange fnCodPartsWrong)

/-- 'laws.FnCodText': WHATEVER THE INPUT: true; the input reads as it did. -/
def fnCodTextSpec : ChangeSpec := { name := "fnCodText", fn := fun _ => fun
  | [d1, d2] => { results := [.lit (.bool true)], args := [d1, d2] }
  | _ => none }
def fnCodTextRow : OpenClaim := { program := "ytiaokhgfolbhnaadoor", sum := "8342bfe2776ea14ecd8f19eff781948c5c702f7f83a7a805ba10c5182d41c97d", func := "loop.example/casemate/laws.FnCodText", spec := "fnCodText", inPlace := ["internal/bytealg.CountString", "internal/bytealg.IndexByteString", "internal/bytealg.IndexString"], named := ["internal/strconv.uint64pow10", "math/bits.deBruijn32tab", "math/bits.deBruijn64tab", "unicode/utf8.first", "unicode/utf8.acceptRanges", "internal/bytealg.MaxLen"], apart := false, laid := [("math/bits.deBruijn32tab", laid_math_bits_deBruijn32tab), ("math/bits.deBruijn64tab", laid_math_bits_deBruijn64tab), ("internal/strconv.uint64pow10", laid_internal_strconv_uint64pow10), ("unicode/utf8.acceptRanges", laid_unicode_utf8_acceptRanges), ("unicode/utf8.first", laid_unicode_utf8_first)] }
def FnCodTextSaid : Prop := fnCodTextRow.holds Tryd.pinned (OpenSpec.ofChange fnCodTextSpec)

/-- ITS FALSE NEIGHBOUR: 'it returns false'. Refute it at one input. -/
def fnCodTextWrong : ChangeSpec := { name := "fnCodText", fn := fun _ => fun
  | [d1, d2] => { results := [.lit (.bool false)], args := [d1, d2] }
  | _ => none }
def FnCodTextWrongFalsely : Prop := fnCodTextRow.holds Tryd.pinned (OpenSpec.ofChange fnCodTextWrong)

/- THE SECOND FORM. 'bulk': how many values and letters a reading holds, each counted each time it is reached (what is shared counts as often as it is met; a slice's spare places count too). A statement '..UptoSaid' is the law's where the arguments, and the package variables that the reading takes, are together of bulk at most 1048576: NARROWER than '..Said'. Prove '..Said' where nothing that the law and all that it calls make is longer than what came in: it says more and counts as full. Else prove '..UptoSaid'. A law counts once. -/
mutual
def uptoBulk {H : Type} : DataW H → Nat
  | .lit (.string bytes) => bytes.length + 1
  | .lit _ => 1
  | .nil => 1
  | .ptr d => uptoBulk d + 1
  | .slice elems spare => uptoBulkAll elems + uptoBulkAll spare + 1
  | .agg parts => uptoBulkAll parts + 1
  | .iface _ d => uptoBulk d + 1
  | .map entries => uptoBulkEntries entries + 1
  | .held _ => 1
def uptoBulkAll {H : Type} : List (DataW H) → Nat
  | [] => 0
  | d :: r => uptoBulk d + uptoBulkAll r
def uptoBulkEntries {H : Type} : List (Lit × DataW H) → Nat
  | [] => 0
  | x :: r => uptoBulkEntry x + uptoBulkEntries r
def uptoBulkEntry {H : Type} : Lit × DataW H → Nat
  | (.string bytes, d) => bytes.length + uptoBulk d + 1
  | (_, d) => uptoBulk d + 1
 end
def uptoSmall : (H : Type) → List (DataW H) → Bool := fun _ ds => decide (uptoBulkAll ds ≤ 1048576)
def OpenSpec.upto (s : _root_.Go.ChangeSpec) : _root_.Go.OpenSpec := { _root_.Go.OpenSpec.ofChange s with cond := some uptoSmall }

/-- 'laws.FnExactFrmTake', WHERE WHAT IT READS IS OF BULK AT MOST 1048576: true; the input reads as it did. -/
def fnExactFrmTakeUptoRow : OpenClaim := { program := "ytiaokhgfolbhnaadoor", sum := "8342bfe2776ea14ecd8f19eff781948c5c702f7f83a7a805ba10c5182d41c97d", func := "loop.example/casemate/laws.FnExactFrmTake", spec := "fnExactFrmTake", inPlace := ["internal/reflectlite.ValueOf", "(internal/reflectlite.Value).Type", "(internal/reflectlite.Value).IsNil", "internal/reflectlite.TypeOf", "(internal/reflectlite.Value).Elem", "(internal/reflectlite.Value).Set"], unfollowed := true, recurses := true, named := ["errors.errorType"], apart := false, laid := [("errors.errorType", laid_errors_errorType)], narrowed := true }
def FnExactFrmTakeUptoSaid : Prop := fnExactFrmTakeUptoRow.holds Tryd.pinned (OpenSpec.upto fnExactFrmTakeSpec)

/-- 'laws.FnFrmBack', WHERE WHAT IT READS IS OF BULK AT MOST 1048576: true; the input reads as it did. -/
def fnFrmBackUptoRow : OpenClaim := { program := "ytiaokhgfolbhnaadoor", sum := "8342bfe2776ea14ecd8f19eff781948c5c702f7f83a7a805ba10c5182d41c97d", func := "loop.example/casemate/laws.FnFrmBack", spec := "fnFrmBack", inPlace := ["internal/reflectlite.ValueOf", "(internal/reflectlite.Value).Type", "(internal/reflectlite.Value).IsNil", "internal/reflectlite.TypeOf", "(internal/reflectlite.Value).Elem", "(internal/reflectlite.Value).Set"], unfollowed := true, recurses := true, named := ["errors.errorType"], apart := false, laid := [("errors.errorType", laid_errors_errorType)], narrowed := true }
def FnFrmBackUptoSaid : Prop := fnFrmBackUptoRow.holds Tryd.pinned (OpenSpec.upto fnFrmBackSpec)

/-- 'laws.FnFrmOnly', WHERE WHAT IT READS IS OF BULK AT MOST 1048576: true; the input reads as it did. -/
def fnFrmOnlyUptoRow : OpenClaim := { program := "ytiaokhgfolbhnaadoor", sum := "8342bfe2776ea14ecd8f19eff781948c5c702f7f83a7a805ba10c5182d41c97d", func := "loop.example/casemate/laws.FnFrmOnly", spec := "fnFrmOnly", inPlace := ["internal/reflectlite.ValueOf", "(internal/reflectlite.Value).Type", "(internal/reflectlite.Value).IsNil", "internal/reflectlite.TypeOf", "(internal/reflectlite.Value).Elem", "(internal/reflectlite.Value).Set"], unfollowed := true, recurses := true, named := ["errors.errorType"], apart := false, laid := [("errors.errorType", laid_errors_errorType)], narrowed := true }
def FnFrmOnlyUptoSaid : Prop := fnFrmOnlyUptoRow.holds Tryd.pinned (OpenSpec.upto fnFrmOnlySpec)

/-- 'laws.FnExactLblText', WHERE WHAT IT READS IS OF BULK AT MOST 1048576: true; the input reads as it did. -/
def fnExactLblTextUptoRow : OpenClaim := { program := "ytiaokhgfolbhnaadoor", sum := "8342bfe2776ea14ecd8f19eff781948c5c702f7f83a7a805ba10c5182d41c97d", func := "loop.example/casemate/laws.FnExactLblText", spec := "fnExactLblText", named := ["internal/strconv.uint64pow10", "math/bits.deBruijn32tab", "math/bits.deBruijn64tab"], apart := false, laid := [("math/bits.deBruijn32tab", laid_math_bits_deBruijn32tab), ("math/bits.deBruijn64tab", laid_math_bits_deBruijn64tab), ("internal/strconv.uint64pow10", laid_internal_strconv_uint64pow10)], narrowed := true }
def FnExactLblTextUptoSaid : Prop := fnExactLblTextUptoRow.holds Tryd.pinned (OpenSpec.upto fnExactLblTextSpec)

/-- 'laws.FnExactLblRead', WHERE WHAT IT READS IS OF BULK AT MOST 1048576: true; the input reads as it did. -/
def fnExactLblReadUptoRow : OpenClaim := { program := "ytiaokhgfolbhnaadoor", sum := "8342bfe2776ea14ecd8f19eff781948c5c702f7f83a7a805ba10c5182d41c97d", func := "loop.example/casemate/laws.FnExactLblRead", spec := "fnExactLblRead", named := ["internal/strconv.uint64pow10", "math/bits.deBruijn32tab", "math/bits.deBruijn64tab"], apart := false, laid := [("math/bits.deBruijn32tab", laid_math_bits_deBruijn32tab), ("math/bits.deBruijn64tab", laid_math_bits_deBruijn64tab), ("internal/strconv.uint64pow10", laid_internal_strconv_uint64pow10)], narrowed := true }
def FnExactLblReadUptoSaid : Prop := fnExactLblReadUptoRow.holds Tryd.pinned (OpenSpec.upto fnExactLblReadSpec)

/-- 'laws.FnLblText', WHERE WHAT IT READS IS OF BULK AT MOST 1048576: true; the input reads as it did. -/
def fnLblTextUptoRow : OpenClaim := { program := "ytiaokhgfolbhnaadoor", sum := "8342bfe2776ea14ecd8f19eff781948c5c702f7f83a7a805ba10c5182d41c97d", func := "loop.example/casemate/laws.FnLblText", spec := "fnLblText", named := ["internal/strconv.uint64pow10", "math/bits.deBruijn32tab", "math/bits.deBruijn64tab"], apart := false, laid := [("math/bits.deBruijn32tab", laid_math_bits_deBruijn32tab), ("math/bits.deBruijn64tab", laid_math_bits_deBruijn64tab), ("internal/strconv.uint64pow10", laid_internal_strconv_uint64pow10)], narrowed := true }
def FnLblTextUptoSaid : Prop := fnLblTextUptoRow.holds Tryd.pinned (OpenSpec.upto fnLblTextSpec)

/-- 'laws.FnExactCodLine', WHERE WHAT IT READS IS OF BULK AT MOST 1048576: true; the input reads as it did. -/
def fnExactCodLineUptoRow : OpenClaim := { program := "ytiaokhgfolbhnaadoor", sum := "8342bfe2776ea14ecd8f19eff781948c5c702f7f83a7a805ba10c5182d41c97d", func := "loop.example/casemate/laws.FnExactCodLine", spec := "fnExactCodLine", named := ["internal/strconv.uint64pow10", "math/bits.deBruijn32tab", "math/bits.deBruijn64tab"], apart := false, laid := [("math/bits.deBruijn32tab", laid_math_bits_deBruijn32tab), ("math/bits.deBruijn64tab", laid_math_bits_deBruijn64tab), ("internal/strconv.uint64pow10", laid_internal_strconv_uint64pow10)], narrowed := true }
def FnExactCodLineUptoSaid : Prop := fnExactCodLineUptoRow.holds Tryd.pinned (OpenSpec.upto fnExactCodLineSpec)

/-- 'laws.FnExactCodRead', WHERE WHAT IT READS IS OF BULK AT MOST 1048576: true; the input reads as it did. -/
def fnExactCodReadUptoRow : OpenClaim := { program := "ytiaokhgfolbhnaadoor", sum := "8342bfe2776ea14ecd8f19eff781948c5c702f7f83a7a805ba10c5182d41c97d", func := "loop.example/casemate/laws.FnExactCodRead", spec := "fnExactCodRead", inPlace := ["internal/bytealg.CountString", "internal/bytealg.IndexByteString", "internal/bytealg.IndexString"], named := ["unicode/utf8.first", "unicode/utf8.acceptRanges", "internal/bytealg.MaxLen"], apart := false, laid := [("unicode/utf8.acceptRanges", laid_unicode_utf8_acceptRanges), ("unicode/utf8.first", laid_unicode_utf8_first)], narrowed := true }
def FnExactCodReadUptoSaid : Prop := fnExactCodReadUptoRow.holds Tryd.pinned (OpenSpec.upto fnExactCodReadSpec)

/-- 'laws.FnCodParts', WHERE WHAT IT READS IS OF BULK AT MOST 1048576: true; the input reads as it did. -/
def fnCodPartsUptoRow : OpenClaim := { program := "ytiaokhgfolbhnaadoor", sum := "8342bfe2776ea14ecd8f19eff781948c5c702f7f83a7a805ba10c5182d41c97d", func := "loop.example/casemate/laws.FnCodParts", spec := "fnCodParts", named := ["internal/strconv.uint64pow10", "math/bits.deBruijn32tab", "math/bits.deBruijn64tab"], apart := false, laid := [("math/bits.deBruijn32tab", laid_math_bits_deBruijn32tab), ("math/bits.deBruijn64tab", laid_math_bits_deBruijn64tab), ("internal/strconv.uint64pow10", laid_internal_strconv_uint64pow10)], narrowed := true }
def FnCodPartsUptoSaid : Prop := fnCodPartsUptoRow.holds Tryd.pinned (OpenSpec.upto fnCodPartsSpec)

/-- 'laws.FnCodText', WHERE WHAT IT READS IS OF BULK AT MOST 1048576: true; the input reads as it did. -/
def fnCodTextUptoRow : OpenClaim := { program := "ytiaokhgfolbhnaadoor", sum := "8342bfe2776ea14ecd8f19eff781948c5c702f7f83a7a805ba10c5182d41c97d", func := "loop.example/casemate/laws.FnCodText", spec := "fnCodText", inPlace := ["internal/bytealg.CountString", "internal/bytealg.IndexByteString", "internal/bytealg.IndexString"], named := ["internal/strconv.uint64pow10", "math/bits.deBruijn32tab", "math/bits.deBruijn64tab", "unicode/utf8.first", "unicode/utf8.acceptRanges", "internal/bytealg.MaxLen"], apart := false, laid := [("math/bits.deBruijn32tab", laid_math_bits_deBruijn32tab), ("math/bits.deBruijn64tab", laid_math_bits_deBruijn64tab), ("internal/strconv.uint64pow10", laid_internal_strconv_uint64pow10), ("unicode/utf8.acceptRanges", laid_unicode_utf8_acceptRanges), ("unicode/utf8.first", laid_unicode_utf8_first)], narrowed := true }
def FnCodTextUptoSaid : Prop := fnCodTextUptoRow.holds Tryd.pinned (OpenSpec.upto fnCodTextSpec)

end Rows
end Go.Proofs.YtiaokhgfolbhnaaDoor
