/-
  No cell of these rows narrows 'for every input' (looked for: loops, veiled, ifaces, maps, wideKeys, modest, calm, conditions, laid).
  DERIVED. THE GIVEN ROWS OF THIS SEAT. 4 by the template 'for every input the law returns true; each argument reads behind the call as it read before'; 0 by the template 'total and deterministic' (their statements: YtnhcchmbdkiodaaGreatTotals.lean).
  GIVEN WITH THE SEED: the statements are not yours to turn. If you find one false, say at which input.
  Laid BY PROGRAM, IN A SANDBOX (cutbox-rows.mjs): the forced cells as the released guide's own fill.sh prints them over the translation 9abfd5e09e40ead5… (all of the seat's roots in one cut). By AI agents, Wed Nov 11 2026. No macro, syntax, notation, axiom, sorry.
-/
import Derived.Test.YtnhcchmbdkiodaaGreatChecked
import GoSem.Claim
import GoSem.ClaimJoined
import GoSem.ClaimMapViews
import Derived.JoinedTies
import Derived.KernelRfl
namespace Go.Proofs.YtnhcchmbdkiodaaGreat
/- THE CELL 'sum', in the pinned program and in every row, IS THE sha256 OF THE DUMP (.gsa) THAT YtnhcchmbdkiodaaGreatProg.lean LOADS. Nothing in Lean hashes anything: it is a label: what it is worth is what the hold of that sum in a sandbox is worth. -/
noncomputable def Tryz.pinned : Pinned := { name := "ytnhcchmbdkiodaagreat", sum := "9abfd5e09e40ead5d611c8c83f8ebe6bb1803304394ce49de5b6b1c1f1127f76", checked := Tryz.checked }
namespace Rows
def none {H : Type} : Left H := { results := [], args := [] }

/-- 'laws.FnExactPlnOk': WHATEVER THE INPUT: true; the input reads as it did. -/
def fnExactPlnOkSpec : ChangeSpec := { name := "fnExactPlnOk", fn := fun _ => fun
  | [d] => { results := [.lit (.bool true)], args := [d] }
  | _ => none }
def fnExactPlnOkRow : OpenClaim := { program := "ytnhcchmbdkiodaagreat", sum := "9abfd5e09e40ead5d611c8c83f8ebe6bb1803304394ce49de5b6b1c1f1127f76", func := "loop.example/casemate/laws.FnExactPlnOk", spec := "fnExactPlnOk", unfollowed := true, recurses := true, apart := false }
def FnExactPlnOkSaid : Prop := fnExactPlnOkRow.holds Tryz.pinned (OpenSpec.ofChange fnExactPlnOkSpec)

/-- ITS FALSE NEIGHBOUR: 'it returns false'. Refute it at one input. -/
def fnExactPlnOkWrong : ChangeSpec := { name := "fnExactPlnOk", fn := fun _ => fun
  | [d] => { results := [.lit (.bool false)], args := [d] }
  | _ => none }
def FnExactPlnOkWrongFalsely : Prop := fnExactPlnOkRow.holds Tryz.pinned (OpenSpec.ofChange fnExactPlnOkWrong)

/-- 'laws.FnExactPlnLocal': WHATEVER THE INPUT: true; the input reads as it did. -/
def fnExactPlnLocalSpec : ChangeSpec := { name := "fnExactPlnLocal", fn := fun _ => fun
  | [d1, d2] => { results := [.lit (.bool true)], args := [d1, d2] }
  | _ => none }
def fnExactPlnLocalRow : OpenClaim := { program := "ytnhcchmbdkiodaagreat", sum := "9abfd5e09e40ead5d611c8c83f8ebe6bb1803304394ce49de5b6b1c1f1127f76", func := "loop.example/casemate/laws.FnExactPlnLocal", spec := "fnExactPlnLocal", unfollowed := true, recurses := true, apart := false }
def FnExactPlnLocalSaid : Prop := fnExactPlnLocalRow.holds Tryz.pinned (OpenSpec.ofChange fnExactPlnLocalSpec)

/-- ITS FALSE NEIGHBOUR: 'it returns false'. Refute it at one input. -/
def fnExactPlnLocalWrong : ChangeSpec := { name := "fnExactPlnLocal", fn := fun _ => fun
  | [d1, d2] => { results := [.lit (.bool false)], args := [d1, d2] }
  | _ => none }
def FnExactPlnLocalWrongFalsely : Prop := fnExactPlnLocalRow.holds Tryz.pinned (OpenSpec.ofChange fnExactPlnLocalWrong)

/-- 'laws.FnExactPlnEdge': WHATEVER THE INPUT: true; the input reads as it did. -/
def fnExactPlnEdgeSpec : ChangeSpec := { name := "fnExactPlnEdge", fn := fun _ => fun
  | [d1, d2, d3] => { results := [.lit (.bool true)], args := [d1, d2, d3] }
  | _ => none }
def fnExactPlnEdgeRow : OpenClaim := { program := "ytnhcchmbdkiodaagreat", sum := "9abfd5e09e40ead5d611c8c83f8ebe6bb1803304394ce49de5b6b1c1f1127f76", func := "loop.example/casemate/laws.FnExactPlnEdge", spec := "fnExactPlnEdge", unfollowed := true, recurses := true, apart := false }
def FnExactPlnEdgeSaid : Prop := fnExactPlnEdgeRow.holds Tryz.pinned (OpenSpec.ofChange fnExactPlnEdgeSpec)

/-- ITS FALSE NEIGHBOUR: 'it returns false'. Refute it at one input. -/
def fnExactPlnEdgeWrong : ChangeSpec := { name := "fnExactPlnEdge", fn := fun _ => fun
  | [d1, d2, d3] => { results := [.lit (.bool false)], args := [d1, d2, d3] }
  | _ => none }
def FnExactPlnEdgeWrongFalsely : Prop := fnExactPlnEdgeRow.holds Tryz.pinned (OpenSpec.ofChange fnExactPlnEdgeWrong)

/-- 'laws.FnExactPlnReach': WHATEVER THE INPUT: true; the input reads as it did. -/
def fnExactPlnReachSpec : ChangeSpec := { name := "fnExactPlnReach", fn := fun _ => fun
  | [d1, d2] => { results := [.lit (.bool true)], args := [d1, d2] }
  | _ => none }
def fnExactPlnReachRow : OpenClaim := { program := "ytnhcchmbdkiodaagreat", sum := "9abfd5e09e40ead5d611c8c83f8ebe6bb1803304394ce49de5b6b1c1f1127f76", func := "loop.example/casemate/laws.FnExactPlnReach", spec := "fnExactPlnReach", unfollowed := true, recurses := true, apart := false }
def FnExactPlnReachSaid : Prop := fnExactPlnReachRow.holds Tryz.pinned (OpenSpec.ofChange fnExactPlnReachSpec)

/-- ITS FALSE NEIGHBOUR: 'it returns false'. Refute it at one input. -/
def fnExactPlnReachWrong : ChangeSpec := { name := "fnExactPlnReach", fn := fun _ => fun
  | [d1, d2] => { results := [.lit (.bool false)], args := [d1, d2] }
  | _ => none }
def FnExactPlnReachWrongFalsely : Prop := fnExactPlnReachRow.holds Tryz.pinned (OpenSpec.ofChange fnExactPlnReachWrong)

/- THE SECOND FORM. 'bulk': how many values and letters a reading holds, each counted each time it is reached (what is shared counts as often as it is met; a slice's spare places count too). A statement '..UptoSaid' is the law's where the arguments, and the package variables that the reading takes, are together of bulk at most 1048576: NARROWER than '..Said'. Prove '..Said' where nothing that the law and all that it calls make is longer than what came in: it says more and counts as full. Else prove '..UptoSaid'. A law counts once. -/
mutual
def uptoBulk {H : Type} : DataW H → Nat
  | .lit (.string bytes) => bytes.length + 1
  | .lit _ => 1
  | .nil => 1
  | .ptr d => uptoBulk d + 1
  | .slice elems spare => uptoBulkAll elems + uptoBulkAll spare + 1
  | .agg parts => uptoBulkAll parts + 1
  | .iface _ d => uptoBulk d + 1
  | .map entries => uptoBulkEntries entries + 1
  | .held _ => 1
def uptoBulkAll {H : Type} : List (DataW H) → Nat
  | [] => 0
  | d :: r => uptoBulk d + uptoBulkAll r
def uptoBulkEntries {H : Type} : List (Lit × DataW H) → Nat
  | [] => 0
  | x :: r => uptoBulkEntry x + uptoBulkEntries r
def uptoBulkEntry {H : Type} : Lit × DataW H → Nat
  | (.string bytes, d) => bytes.length + uptoBulk d + 1
  | (_, d) => uptoBulk d + 1
 end
def uptoSmall : (H : Type) → List (DataW H) → Bool := fun _ ds => decide (uptoBulkAll ds ≤ 1048576)
def OpenSpec.upto (s : _root_.Go.ChangeSpec) : _root_.Go.OpenSpec := { _root_.Go.OpenSpec.ofChange s with cond := some uptoSmall }

/-- 'laws.FnExactPlnOk', WHERE WHAT IT READS IS OF BULK AT MOST 1048576: true; the input reads as it did. -/
def fnExactPlnOkUptoRow : OpenClaim := { program := "ytnhcchmbdkiodaagreat", sum := "9abfd5e09e40ead5d611c8c83f8ebe6bb1803304394ce49de5b6b1c1f1127f76", func := "loop.example/casemate/laws.FnExactPlnOk", spec := "fnExactPlnOk", unfollowed := true, recurses := true, apart := false, narrowed := true }
def FnExactPlnOkUptoSaid : Prop := fnExactPlnOkUptoRow.holds Tryz.pinned (OpenSpec.upto fnExactPlnOkSpec)

/-- 'laws.FnExactPlnLocal', WHERE WHAT IT READS IS OF BULK AT MOST 1048576: true; the input reads as it did. -/
def fnExactPlnLocalUptoRow : OpenClaim := { program := "ytnhcchmbdkiodaagreat", sum := "9abfd5e09e40ead5d611c8c83f8ebe6bb1803304394ce49de5b6b1c1f1127f76", func := "loop.example/casemate/laws.FnExactPlnLocal", spec := "fnExactPlnLocal", unfollowed := true, recurses := true, apart := false, narrowed := true }
def FnExactPlnLocalUptoSaid : Prop := fnExactPlnLocalUptoRow.holds Tryz.pinned (OpenSpec.upto fnExactPlnLocalSpec)

/-- 'laws.FnExactPlnEdge', WHERE WHAT IT READS IS OF BULK AT MOST 1048576: true; the input reads as it did. -/
def fnExactPlnEdgeUptoRow : OpenClaim := { program := "ytnhcchmbdkiodaagreat", sum := "9abfd5e09e40ead5d611c8c83f8ebe6bb1803304394ce49de5b6b1c1f1127f76", func := "loop.example/casemate/laws.FnExactPlnEdge", spec := "fnExactPlnEdge", unfollowed := true, recurses := true, apart := false, narrowed := true }
def FnExactPlnEdgeUptoSaid : Prop := fnExactPlnEdgeUptoRow.holds Tryz.pinned (OpenSpec.upto fnExactPlnEdgeSpec)

/-- 'laws.FnExactPlnReach', WHERE WHAT IT READS IS OF BULK AT MOST 1048576: true; the input reads as it did. -/
def fnExactPlnReachUptoRow : OpenClaim := { program := "ytnhcchmbdkiodaagreat", sum := "9abfd5e09e40ead5d611c8c83f8ebe6bb1803304394ce49de5b6b1c1f1127f76", func := "loop.example/casemate/laws.FnExactPlnReach", spec := "fnExactPlnReach", unfollowed := true, recurses := true, apart := false, narrowed := true }
def FnExactPlnReachUptoSaid : Prop := fnExactPlnReachUptoRow.holds Tryz.pinned (OpenSpec.upto fnExactPlnReachSpec)

end Rows
end Go.Proofs.YtnhcchmbdkiodaaGreat
