/-
  No cell of these rows narrows 'for every input' (looked for: loops, veiled, ifaces, maps, wideKeys, modest, calm, conditions, laid).
  DERIVED. THE GIVEN ROWS OF THIS SEAT. 10 by the template 'for every input the law returns true; each argument reads behind the call as it read before'; 0 by the template 'total and deterministic' (their statements: YtjlmfcddbcoimaaGreatTotals.lean).
  GIVEN WITH THE SEED: the statements are not yours to turn. If you find one false, say at which input.
  Laid BY PROGRAM, IN A SANDBOX (cutbox-rows.mjs): the forced cells as the released guide's own fill.sh prints them over the translation 9b19c80da53169ab… (all of the seat's roots in one cut). By AI agents, Wed Nov 11 2026. No macro, syntax, notation, axiom, sorry.
-/
import Derived.Test.YtjlmfcddbcoimaaGreatChecked
import GoSem.Claim
import GoSem.ClaimJoined
import GoSem.ClaimMapViews
import Derived.JoinedTies
import Derived.KernelRfl
namespace Go.Proofs.YtjlmfcddbcoimaaGreat
/- THE CELL 'sum', in the pinned program and in every row, IS THE sha256 OF THE DUMP (.gsa) THAT YtjlmfcddbcoimaaGreatProg.lean LOADS. Nothing in Lean hashes anything: it is a label: what it is worth is what the hold of that sum in a sandbox is worth. -/
noncomputable def Tryz.pinned : Pinned := { name := "ytjlmfcddbcoimaagreat", sum := "9b19c80da53169ab7545ad69fb50c547d95fc6c8691b7eaddbc627178ac2db75", checked := Tryz.checked }
namespace Rows
def none {H : Type} : Left H := { results := [], args := [] }

/-- 'laws.FnExactNodNew': WHATEVER THE INPUT: true; the input reads as it did. -/
def fnExactNodNewSpec : ChangeSpec := { name := "fnExactNodNew", fn := fun _ => fun
  | [d1, d2] => { results := [.lit (.bool true)], args := [d1, d2] }
  | _ => none }
def fnExactNodNewRow : OpenClaim := { program := "ytjlmfcddbcoimaagreat", sum := "9b19c80da53169ab7545ad69fb50c547d95fc6c8691b7eaddbc627178ac2db75", func := "loop.example/casemate/laws.FnExactNodNew", spec := "fnExactNodNew", unfollowed := true, recurses := true, apart := false }
def FnExactNodNewSaid : Prop := fnExactNodNewRow.holds Tryz.pinned (OpenSpec.ofChange fnExactNodNewSpec)

/-- ITS FALSE NEIGHBOUR: 'it returns false'. Refute it at one input. -/
def fnExactNodNewWrong : ChangeSpec := { name := "fnExactNodNew", fn := fun _ => fun
  | [d1, d2] => { results := [.lit (.bool false)], args := [d1, d2] }
  | _ => none }
def FnExactNodNewWrongFalsely : Prop := fnExactNodNewRow.holds Tryz.pinned (OpenSpec.ofChange fnExactNodNewWrong)

/-- 'laws.FnExactNodOk': WHATEVER THE INPUT: true; the input reads as it did. -/
def fnExactNodOkSpec : ChangeSpec := { name := "fnExactNodOk", fn := fun _ => fun
  | [d1, d2, d3] => { results := [.lit (.bool true)], args := [d1, d2, d3] }
  | _ => none }
def fnExactNodOkRow : OpenClaim := { program := "ytjlmfcddbcoimaagreat", sum := "9b19c80da53169ab7545ad69fb50c547d95fc6c8691b7eaddbc627178ac2db75", func := "loop.example/casemate/laws.FnExactNodOk", spec := "fnExactNodOk", unfollowed := true, recurses := true, apart := false }
def FnExactNodOkSaid : Prop := fnExactNodOkRow.holds Tryz.pinned (OpenSpec.ofChange fnExactNodOkSpec)

/-- ITS FALSE NEIGHBOUR: 'it returns false'. Refute it at one input. -/
def fnExactNodOkWrong : ChangeSpec := { name := "fnExactNodOk", fn := fun _ => fun
  | [d1, d2, d3] => { results := [.lit (.bool false)], args := [d1, d2, d3] }
  | _ => none }
def FnExactNodOkWrongFalsely : Prop := fnExactNodOkRow.holds Tryz.pinned (OpenSpec.ofChange fnExactNodOkWrong)

/-- 'laws.FnExactNodRise': WHATEVER THE INPUT: true; the input reads as it did. -/
def fnExactNodRiseSpec : ChangeSpec := { name := "fnExactNodRise", fn := fun _ => fun
  | [d1, d2, d3] => { results := [.lit (.bool true)], args := [d1, d2, d3] }
  | _ => none }
def fnExactNodRiseRow : OpenClaim := { program := "ytjlmfcddbcoimaagreat", sum := "9b19c80da53169ab7545ad69fb50c547d95fc6c8691b7eaddbc627178ac2db75", func := "loop.example/casemate/laws.FnExactNodRise", spec := "fnExactNodRise", unfollowed := true, recurses := true, apart := false }
def FnExactNodRiseSaid : Prop := fnExactNodRiseRow.holds Tryz.pinned (OpenSpec.ofChange fnExactNodRiseSpec)

/-- ITS FALSE NEIGHBOUR: 'it returns false'. Refute it at one input. -/
def fnExactNodRiseWrong : ChangeSpec := { name := "fnExactNodRise", fn := fun _ => fun
  | [d1, d2, d3] => { results := [.lit (.bool false)], args := [d1, d2, d3] }
  | _ => none }
def FnExactNodRiseWrongFalsely : Prop := fnExactNodRiseRow.holds Tryz.pinned (OpenSpec.ofChange fnExactNodRiseWrong)

/-- 'laws.FnExactNodFall': WHATEVER THE INPUT: true; the input reads as it did. -/
def fnExactNodFallSpec : ChangeSpec := { name := "fnExactNodFall", fn := fun _ => fun
  | [d1, d2, d3] => { results := [.lit (.bool true)], args := [d1, d2, d3] }
  | _ => none }
def fnExactNodFallRow : OpenClaim := { program := "ytjlmfcddbcoimaagreat", sum := "9b19c80da53169ab7545ad69fb50c547d95fc6c8691b7eaddbc627178ac2db75", func := "loop.example/casemate/laws.FnExactNodFall", spec := "fnExactNodFall", unfollowed := true, recurses := true, apart := false }
def FnExactNodFallSaid : Prop := fnExactNodFallRow.holds Tryz.pinned (OpenSpec.ofChange fnExactNodFallSpec)

/-- ITS FALSE NEIGHBOUR: 'it returns false'. Refute it at one input. -/
def fnExactNodFallWrong : ChangeSpec := { name := "fnExactNodFall", fn := fun _ => fun
  | [d1, d2, d3] => { results := [.lit (.bool false)], args := [d1, d2, d3] }
  | _ => none }
def FnExactNodFallWrongFalsely : Prop := fnExactNodFallRow.holds Tryz.pinned (OpenSpec.ofChange fnExactNodFallWrong)

/-- 'laws.FnExactNodInput': WHATEVER THE INPUT: true; the input reads as it did. -/
def fnExactNodInputSpec : ChangeSpec := { name := "fnExactNodInput", fn := fun _ => fun
  | [d1, d2, d3, d4, d5] => { results := [.lit (.bool true)], args := [d1, d2, d3, d4, d5] }
  | _ => none }
def fnExactNodInputRow : OpenClaim := { program := "ytjlmfcddbcoimaagreat", sum := "9b19c80da53169ab7545ad69fb50c547d95fc6c8691b7eaddbc627178ac2db75", func := "loop.example/casemate/laws.FnExactNodInput", spec := "fnExactNodInput", unfollowed := true, recurses := true, apart := false }
def FnExactNodInputSaid : Prop := fnExactNodInputRow.holds Tryz.pinned (OpenSpec.ofChange fnExactNodInputSpec)

/-- ITS FALSE NEIGHBOUR: 'it returns false'. Refute it at one input. -/
def fnExactNodInputWrong : ChangeSpec := { name := "fnExactNodInput", fn := fun _ => fun
  | [d1, d2, d3, d4, d5] => { results := [.lit (.bool false)], args := [d1, d2, d3, d4, d5] }
  | _ => none }
def FnExactNodInputWrongFalsely : Prop := fnExactNodInputRow.holds Tryz.pinned (OpenSpec.ofChange fnExactNodInputWrong)

/-- 'laws.FnExactOneOk': WHATEVER THE INPUT: true; the input reads as it did. -/
def fnExactOneOkSpec : ChangeSpec := { name := "fnExactOneOk", fn := fun _ => fun
  | [d] => { results := [.lit (.bool true)], args := [d] }
  | _ => none }
def fnExactOneOkRow : OpenClaim := { program := "ytjlmfcddbcoimaagreat", sum := "9b19c80da53169ab7545ad69fb50c547d95fc6c8691b7eaddbc627178ac2db75", func := "loop.example/casemate/laws.FnExactOneOk", spec := "fnExactOneOk", unfollowed := true, recurses := true, apart := false }
def FnExactOneOkSaid : Prop := fnExactOneOkRow.holds Tryz.pinned (OpenSpec.ofChange fnExactOneOkSpec)

/-- ITS FALSE NEIGHBOUR: 'it returns false'. Refute it at one input. -/
def fnExactOneOkWrong : ChangeSpec := { name := "fnExactOneOk", fn := fun _ => fun
  | [d] => { results := [.lit (.bool false)], args := [d] }
  | _ => none }
def FnExactOneOkWrongFalsely : Prop := fnExactOneOkRow.holds Tryz.pinned (OpenSpec.ofChange fnExactOneOkWrong)

/-- 'laws.FnExactOneSame': WHATEVER THE INPUT: true; the input reads as it did. -/
def fnExactOneSameSpec : ChangeSpec := { name := "fnExactOneSame", fn := fun _ => fun
  | [d1, d2] => { results := [.lit (.bool true)], args := [d1, d2] }
  | _ => none }
def fnExactOneSameRow : OpenClaim := { program := "ytjlmfcddbcoimaagreat", sum := "9b19c80da53169ab7545ad69fb50c547d95fc6c8691b7eaddbc627178ac2db75", func := "loop.example/casemate/laws.FnExactOneSame", spec := "fnExactOneSame", unfollowed := true, recurses := true, apart := false }
def FnExactOneSameSaid : Prop := fnExactOneSameRow.holds Tryz.pinned (OpenSpec.ofChange fnExactOneSameSpec)

/-- ITS FALSE NEIGHBOUR: 'it returns false'. Refute it at one input. -/
def fnExactOneSameWrong : ChangeSpec := { name := "fnExactOneSame", fn := fun _ => fun
  | [d1, d2] => { results := [.lit (.bool false)], args := [d1, d2] }
  | _ => none }
def FnExactOneSameWrongFalsely : Prop := fnExactOneSameRow.holds Tryz.pinned (OpenSpec.ofChange fnExactOneSameWrong)

/-- 'laws.FnExactWldOk': WHATEVER THE INPUT: true; the input reads as it did. -/
def fnExactWldOkSpec : ChangeSpec := { name := "fnExactWldOk", fn := fun _ => fun
  | [d] => { results := [.lit (.bool true)], args := [d] }
  | _ => none }
def fnExactWldOkRow : OpenClaim := { program := "ytjlmfcddbcoimaagreat", sum := "9b19c80da53169ab7545ad69fb50c547d95fc6c8691b7eaddbc627178ac2db75", func := "loop.example/casemate/laws.FnExactWldOk", spec := "fnExactWldOk", unfollowed := true, recurses := true, apart := false }
def FnExactWldOkSaid : Prop := fnExactWldOkRow.holds Tryz.pinned (OpenSpec.ofChange fnExactWldOkSpec)

/-- ITS FALSE NEIGHBOUR: 'it returns false'. Refute it at one input. -/
def fnExactWldOkWrong : ChangeSpec := { name := "fnExactWldOk", fn := fun _ => fun
  | [d] => { results := [.lit (.bool false)], args := [d] }
  | _ => none }
def FnExactWldOkWrongFalsely : Prop := fnExactWldOkRow.holds Tryz.pinned (OpenSpec.ofChange fnExactWldOkWrong)

/-- 'laws.FnExactWldBack': WHATEVER THE INPUT: true; the input reads as it did. -/
def fnExactWldBackSpec : ChangeSpec := { name := "fnExactWldBack", fn := fun _ => fun
  | [d] => { results := [.lit (.bool true)], args := [d] }
  | _ => none }
def fnExactWldBackRow : OpenClaim := { program := "ytjlmfcddbcoimaagreat", sum := "9b19c80da53169ab7545ad69fb50c547d95fc6c8691b7eaddbc627178ac2db75", func := "loop.example/casemate/laws.FnExactWldBack", spec := "fnExactWldBack", unfollowed := true, recurses := true, apart := false }
def FnExactWldBackSaid : Prop := fnExactWldBackRow.holds Tryz.pinned (OpenSpec.ofChange fnExactWldBackSpec)

/-- ITS FALSE NEIGHBOUR: 'it returns false'. Refute it at one input. -/
def fnExactWldBackWrong : ChangeSpec := { name := "fnExactWldBack", fn := fun _ => fun
  | [d] => { results := [.lit (.bool false)], args := [d] }
  | _ => none }
def FnExactWldBackWrongFalsely : Prop := fnExactWldBackRow.holds Tryz.pinned (OpenSpec.ofChange fnExactWldBackWrong)

/-- 'laws.FnExactWldNew': WHATEVER THE INPUT: true; the input reads as it did. -/
def fnExactWldNewSpec : ChangeSpec := { name := "fnExactWldNew", fn := fun _ => fun
  | [d] => { results := [.lit (.bool true)], args := [d] }
  | _ => none }
def fnExactWldNewRow : OpenClaim := { program := "ytjlmfcddbcoimaagreat", sum := "9b19c80da53169ab7545ad69fb50c547d95fc6c8691b7eaddbc627178ac2db75", func := "loop.example/casemate/laws.FnExactWldNew", spec := "fnExactWldNew", unfollowed := true, recurses := true, apart := false }
def FnExactWldNewSaid : Prop := fnExactWldNewRow.holds Tryz.pinned (OpenSpec.ofChange fnExactWldNewSpec)

/-- ITS FALSE NEIGHBOUR: 'it returns false'. Refute it at one input. -/
def fnExactWldNewWrong : ChangeSpec := { name := "fnExactWldNew", fn := fun _ => fun
  | [d] => { results := [.lit (.bool false)], args := [d] }
  | _ => none }
def FnExactWldNewWrongFalsely : Prop := fnExactWldNewRow.holds Tryz.pinned (OpenSpec.ofChange fnExactWldNewWrong)

/- THE SECOND FORM. 'bulk': how many values and letters a reading holds, each counted each time it is reached (what is shared counts as often as it is met; a slice's spare places count too). A statement '..UptoSaid' is the law's where the arguments, and the package variables that the reading takes, are together of bulk at most 1048576: NARROWER than '..Said'. Prove '..Said' where nothing that the law and all that it calls make is longer than what came in: it says more and counts as full. Else prove '..UptoSaid'. A law counts once. -/
mutual
def uptoBulk {H : Type} : DataW H → Nat
  | .lit (.string bytes) => bytes.length + 1
  | .lit _ => 1
  | .nil => 1
  | .ptr d => uptoBulk d + 1
  | .slice elems spare => uptoBulkAll elems + uptoBulkAll spare + 1
  | .agg parts => uptoBulkAll parts + 1
  | .iface _ d => uptoBulk d + 1
  | .map entries => uptoBulkEntries entries + 1
  | .held _ => 1
def uptoBulkAll {H : Type} : List (DataW H) → Nat
  | [] => 0
  | d :: r => uptoBulk d + uptoBulkAll r
def uptoBulkEntries {H : Type} : List (Lit × DataW H) → Nat
  | [] => 0
  | x :: r => uptoBulkEntry x + uptoBulkEntries r
def uptoBulkEntry {H : Type} : Lit × DataW H → Nat
  | (.string bytes, d) => bytes.length + uptoBulk d + 1
  | (_, d) => uptoBulk d + 1
 end
def uptoSmall : (H : Type) → List (DataW H) → Bool := fun _ ds => decide (uptoBulkAll ds ≤ 1048576)
def OpenSpec.upto (s : _root_.Go.ChangeSpec) : _root_.Go.OpenSpec := { _root_.Go.OpenSpec.ofChange s with cond := some uptoSmall }

/-- 'laws.FnExactNodNew', WHERE WHAT IT READS IS OF BULK AT MOST 1048576: true; the input reads as it did. -/
def fnExactNodNewUptoRow : OpenClaim := { program := "ytjlmfcddbcoimaagreat", sum := "9b19c80da53169ab7545ad69fb50c547d95fc6c8691b7eaddbc627178ac2db75", func := "loop.example/casemate/laws.FnExactNodNew", spec := "fnExactNodNew", unfollowed := true, recurses := true, apart := false, narrowed := true }
def FnExactNodNewUptoSaid : Prop := fnExactNodNewUptoRow.holds Tryz.pinned (OpenSpec.upto fnExactNodNewSpec)

/-- 'laws.FnExactNodOk', WHERE WHAT IT READS IS OF BULK AT MOST 1048576: true; the input reads as it did. -/
def fnExactNodOkUptoRow : OpenClaim := { program := "ytjlmfcddbcoimaagreat", sum := "9b19c80da53169ab7545ad69fb50c547d95fc6c8691b7eaddbc627178ac2db75", func := "loop.example/casemate/laws.FnExactNodOk", spec := "fnExactNodOk", unfollowed := true, recurses := true, apart := false, narrowed := true }
def FnExactNodOkUptoSaid : Prop := fnExactNodOkUptoRow.holds Tryz.pinned (OpenSpec.upto fnExactNodOkSpec)

/-- 'laws.FnExactNodRise', WHERE WHAT IT READS IS OF BULK AT MOST 1048576: true; the input reads as it did. -/
def fnExactNodRiseUptoRow : OpenClaim := { program := "ytjlmfcddbcoimaagreat", sum := "9b19c80da53169ab7545ad69fb50c547d95fc6c8691b7eaddbc627178ac2db75", func := "loop.example/casemate/laws.FnExactNodRise", spec := "fnExactNodRise", unfollowed := true, recurses := true, apart := false, narrowed := true }
def FnExactNodRiseUptoSaid : Prop := fnExactNodRiseUptoRow.holds Tryz.pinned (OpenSpec.upto fnExactNodRiseSpec)

/-- 'laws.FnExactNodFall', WHERE WHAT IT READS IS OF BULK AT MOST 1048576: true; the input reads as it did. -/
def fnExactNodFallUptoRow : OpenClaim := { program := "ytjlmfcddbcoimaagreat", sum := "9b19c80da53169ab7545ad69fb50c547d95fc6c8691b7eaddbc627178ac2db75", func := "loop.example/casemate/laws.FnExactNodFall", spec := "fnExactNodFall", unfollowed := true, recurses := true, apart := false, narrowed := true }
def FnExactNodFallUptoSaid : Prop := fnExactNodFallUptoRow.holds Tryz.pinned (OpenSpec.upto fnExactNodFallSpec)

/-- 'laws.FnExactNodInput', WHERE WHAT IT READS IS OF BULK AT MOST 1048576: true; the input reads as it did. -/
def fnExactNodInputUptoRow : OpenClaim := { program := "ytjlmfcddbcoimaagreat", sum := "9b19c80da53169ab7545ad69fb50c547d95fc6c8691b7eaddbc627178ac2db75", func := "loop.example/casemate/laws.FnExactNodInput", spec := "fnExactNodInput", unfollowed := true, recurses := true, apart := false, narrowed := true }
def FnExactNodInputUptoSaid : Prop := fnExactNodInputUptoRow.holds Tryz.pinned (OpenSpec.upto fnExactNodInputSpec)

/-- 'laws.FnExactOneOk', WHERE WHAT IT READS IS OF BULK AT MOST 1048576: true; the input reads as it did. -/
def fnExactOneOkUptoRow : OpenClaim := { program := "ytjlmfcddbcoimaagreat", sum := "9b19c80da53169ab7545ad69fb50c547d95fc6c8691b7eaddbc627178ac2db75", func := "loop.example/casemate/laws.FnExactOneOk", spec := "fnExactOneOk", unfollowed := true, recurses := true, apart := false, narrowed := true }
def FnExactOneOkUptoSaid : Prop := fnExactOneOkUptoRow.holds Tryz.pinned (OpenSpec.upto fnExactOneOkSpec)

/-- 'laws.FnExactOneSame', WHERE WHAT IT READS IS OF BULK AT MOST 1048576: true; the input reads as it did. -/
def fnExactOneSameUptoRow : OpenClaim := { program := "ytjlmfcddbcoimaagreat", sum := "9b19c80da53169ab7545ad69fb50c547d95fc6c8691b7eaddbc627178ac2db75", func := "loop.example/casemate/laws.FnExactOneSame", spec := "fnExactOneSame", unfollowed := true, recurses := true, apart := false, narrowed := true }
def FnExactOneSameUptoSaid : Prop := fnExactOneSameUptoRow.holds Tryz.pinned (OpenSpec.upto fnExactOneSameSpec)

/-- 'laws.FnExactWldOk', WHERE WHAT IT READS IS OF BULK AT MOST 1048576: true; the input reads as it did. -/
def fnExactWldOkUptoRow : OpenClaim := { program := "ytjlmfcddbcoimaagreat", sum := "9b19c80da53169ab7545ad69fb50c547d95fc6c8691b7eaddbc627178ac2db75", func := "loop.example/casemate/laws.FnExactWldOk", spec := "fnExactWldOk", unfollowed := true, recurses := true, apart := false, narrowed := true }
def FnExactWldOkUptoSaid : Prop := fnExactWldOkUptoRow.holds Tryz.pinned (OpenSpec.upto fnExactWldOkSpec)

/-- 'laws.FnExactWldBack', WHERE WHAT IT READS IS OF BULK AT MOST 1048576: true; the input reads as it did. -/
def fnExactWldBackUptoRow : OpenClaim := { program := "ytjlmfcddbcoimaagreat", sum := "9b19c80da53169ab7545ad69fb50c547d95fc6c8691b7eaddbc627178ac2db75", func := "loop.example/casemate/laws.FnExactWldBack", spec := "fnExactWldBack", unfollowed := true, recurses := true, apart := false, narrowed := true }
def FnExactWldBackUptoSaid : Prop := fnExactWldBackUptoRow.holds Tryz.pinned (OpenSpec.upto fnExactWldBackSpec)

/-- 'laws.FnExactWldNew', WHERE WHAT IT READS IS OF BULK AT MOST 1048576: true; the input reads as it did. -/
def fnExactWldNewUptoRow : OpenClaim := { program := "ytjlmfcddbcoimaagreat", sum := "9b19c80da53169ab7545ad69fb50c547d95fc6c8691b7eaddbc627178ac2db75", func := "loop.example/casemate/laws.FnExactWldNew", spec := "fnExactWldNew", unfollowed := true, recurses := true, apart := false, narrowed := true }
def FnExactWldNewUptoSaid : Prop := fnExactWldNewUptoRow.holds Tryz.pinned (OpenSpec.upto fnExactWldNewSpec)

end Rows
end Go.Proofs.YtjlmfcddbcoimaaGreat
