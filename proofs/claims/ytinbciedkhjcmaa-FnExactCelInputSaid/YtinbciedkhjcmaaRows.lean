/-
  No cell of these rows narrows 'for every input' (looked for: loops, veiled, ifaces, maps, wideKeys, modest, calm, conditions, laid).
  DERIVED. THE GIVEN ROWS OF THIS SEAT. 2 by the template 'for every input the law returns true; each argument reads behind the call as it read before'; 0 by the template 'total and deterministic' (their statements: YtinbciedkhjcmaaTotals.lean).
  GIVEN WITH THE SEED: the statements are not yours to turn. If you find one false, say at which input.
  Laid BY PROGRAM, IN A SANDBOX (cutbox-rows.mjs): the forced cells as the released guide's own fill.sh prints them over the translation 1a4d5f638cb12438… (all of the seat's roots in one cut). By AI agents, Wed Nov 11 2026. No macro, syntax, notation, axiom, sorry.
-/
import Derived.Test.YtinbciedkhjcmaaChecked
import GoSem.Claim
import GoSem.ClaimJoined
import GoSem.ClaimMapViews
import Derived.JoinedTies
import Derived.KernelRfl
namespace Go.Proofs.Ytinbciedkhjcmaa
/- THE CELL 'sum', in the pinned program and in every row, IS THE sha256 OF THE DUMP (.gsa) THAT YtinbciedkhjcmaaProg.lean LOADS. Nothing in Lean hashes anything: it is a label: what it is worth is what the hold of that sum in a sandbox is worth. -/
noncomputable def Try.pinned : Pinned := { name := "ytinbciedkhjcmaa", sum := "1a4d5f638cb1243874c087fbbc19c7dbb5a27d81e440934da4eaebeeff79d703", checked := Try.checked }
namespace Rows
def none {H : Type} : Left H := { results := [], args := [] }

/-- 'laws.FnExactCelInput': WHATEVER THE INPUT: true; the input reads as it did. -/
def fnExactCelInputSpec : ChangeSpec := { name := "fnExactCelInput", fn := fun _ => fun
  | [d1, d2] => { results := [.lit (.bool true)], args := [d1, d2] }
  | _ => none }
def fnExactCelInputRow : OpenClaim := { program := "ytinbciedkhjcmaa", sum := "1a4d5f638cb1243874c087fbbc19c7dbb5a27d81e440934da4eaebeeff79d703", func := "loop.example/casemate/laws.FnExactCelInput", spec := "fnExactCelInput", apart := false }
def FnExactCelInputSaid : Prop := fnExactCelInputRow.holds Try.pinned (OpenSpec.ofChange fnExactCelInputSpec)

/-- ITS FALSE NEIGHBOUR: 'it returns false'. Refute it at one input. -/
def fnExactCelInputWrong : ChangeSpec := { name := "fnExactCelInput", fn := fun _ => fun
  | [d1, d2] => { results := [.lit (.bool false)], args := [d1, d2] }
  | _ => none }
def FnExactCelInputWrongFalsely : Prop := fnExactCelInputRow.holds Try.pinned (OpenSpec.ofChange fnExactCelInputWrong)

/-- 'laws.FnPlnReach': WHATEVER THE INPUT: true; the input reads as it did. -/
def fnPlnReachSpec : ChangeSpec := { name := "fnPlnReach", fn := fun _ => fun
  | [d] => { results := [.lit (.bool true)], args := [d] }
  | _ => none }
def fnPlnReachRow : OpenClaim := { program := "ytinbciedkhjcmaa", sum := "1a4d5f638cb1243874c087fbbc19c7dbb5a27d81e440934da4eaebeeff79d703", func := "loop.example/casemate/laws.FnPlnReach", spec := "fnPlnReach", unfollowed := true, recurses := true, apart := false }
def FnPlnReachSaid : Prop := fnPlnReachRow.holds Try.pinned (OpenSpec.ofChange fnPlnReachSpec)

/-- ITS FALSE NEIGHBOUR: 'it returns false'. Refute it at one input. -/
def fnPlnReachWrong : ChangeSpec := { name := "fnPlnReach", fn := fun _ => fun
  | [d] => { results := [.lit (.bool false)], args := [d] }
  | _ => none }
def FnPlnReachWrongFalsely : Prop := fnPlnReachRow.holds Try.pinned (OpenSpec.ofChange fnPlnReachWrong)

/- THE SECOND FORM. 'bulk': how many values and letters a reading holds, each counted each time it is reached (what is shared counts as often as it is met; a slice's spare places count too). A statement '..UptoSaid' is the law's where the arguments, and the package variables that the reading takes, are together of bulk at most 1048576: NARROWER than '..Said'. Prove '..Said' where nothing that the law and all that it calls make is longer than what came in: it says more and counts as full. Else prove '..UptoSaid'. A law counts once. -/
mutual
def uptoBulk {H : Type} : DataW H → Nat
  | .lit (.string bytes) => bytes.length + 1
  | .lit _ => 1
  | .nil => 1
  | .ptr d => uptoBulk d + 1
  | .slice elems spare => uptoBulkAll elems + uptoBulkAll spare + 1
  | .agg parts => uptoBulkAll parts + 1
  | .iface _ d => uptoBulk d + 1
  | .map entries => uptoBulkEntries entries + 1
  | .held _ => 1
def uptoBulkAll {H : Type} : List (DataW H) → Nat
  | [] => 0
  | d :: r => uptoBulk d + uptoBulkAll r
def uptoBulkEntries {H : Type} : List (Lit × DataW H) → Nat
  | [] => 0
  | x :: r => uptoBulkEntry x + uptoBulkEntries r
def uptoBulkEntry {H : Type} : Lit × DataW H → Nat
  | (.string bytes, d) => bytes.length + uptoBulk d + 1
  | (_, d) => uptoBulk d + 1
 end
def uptoSmall : (H : Type) → List (DataW H) → Bool := fun _ ds => decide (uptoBulkAll ds ≤ 1048576)
def OpenSpec.upto (s : _root_.Go.ChangeSpec) : _root_.Go.OpenSpec := { _root_.Go.OpenSpec.ofChange s with cond := some uptoSmall }

/-- 'laws.FnExactCelInput', WHERE WHAT IT READS IS OF BULK AT MOST 1048576: true; the input reads as it did. -/
def fnExactCelInputUptoRow : OpenClaim := { program := "ytinbciedkhjcmaa", sum := "1a4d5f638cb1243874c087fbbc19c7dbb5a27d81e440934da4eaebeeff79d703", func := "loop.example/casemate/laws.FnExactCelInput", spec := "fnExactCelInput", apart := false, narrowed := true }
def FnExactCelInputUptoSaid : Prop := fnExactCelInputUptoRow.holds Try.pinned (OpenSpec.upto fnExactCelInputSpec)

/-- 'laws.FnPlnReach', WHERE WHAT IT READS IS OF BULK AT MOST 1048576: true; the input reads as it did. -/
def fnPlnReachUptoRow : OpenClaim := { program := "ytinbciedkhjcmaa", sum := "1a4d5f638cb1243874c087fbbc19c7dbb5a27d81e440934da4eaebeeff79d703", func := "loop.example/casemate/laws.FnPlnReach", spec := "fnPlnReach", unfollowed := true, recurses := true, apart := false, narrowed := true }
def FnPlnReachUptoSaid : Prop := fnPlnReachUptoRow.holds Try.pinned (OpenSpec.upto fnPlnReachSpec)

end Rows
end Go.Proofs.Ytinbciedkhjcmaa
