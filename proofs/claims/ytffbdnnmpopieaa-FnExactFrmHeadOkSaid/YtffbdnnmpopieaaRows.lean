/-
  No cell of these rows narrows 'for every input' (looked for: loops, veiled, ifaces, maps, wideKeys, modest, calm, conditions, laid).
  DERIVED. THE GIVEN ROWS OF THIS SEAT. 11 by the template 'for every input the law returns true; each argument reads behind the call as it read before'; 0 by the template 'total and deterministic' (their statements: YtffbdnnmpopieaaTotals.lean).
  GIVEN WITH THE SEED: the statements are not yours to turn. If you find one false, say at which input.
  Laid BY PROGRAM, IN A SANDBOX (cutbox-rows.mjs): the forced cells as the released guide's own fill.sh prints them over the translation c9469bed355942cc… (all of the seat's roots in one cut). By AI agents, Wed Nov 11 2026. No macro, syntax, notation, axiom, sorry.
-/
import Derived.Test.YtffbdnnmpopieaaChecked
import GoSem.Claim
import GoSem.ClaimJoined
import GoSem.ClaimMapViews
import Derived.JoinedTies
import Derived.KernelRfl
namespace Go.Proofs.Ytffbdnnmpopieaa
/- THE CELL 'sum', in the pinned program and in every row, IS THE sha256 OF THE DUMP (.gsa) THAT YtffbdnnmpopieaaProg.lean LOADS. Nothing in Lean hashes anything: it is a label: what it is worth is what the hold of that sum in a sandbox is worth. -/
noncomputable def Try.pinned : Pinned := { name := "ytffbdnnmpopieaa", sum := "c9469bed355942cc41c34828aa55fce44509277a7d9900340d23f18c3d6bd729", checked := Try.checked }
namespace Rows
def none {H : Type} : Left H := { results := [], args := [] }

/-- 'laws.FnExactLblOk': WHATEVER THE INPUT: true; the input reads as it did. -/
def fnExactLblOkSpec : ChangeSpec := { name := "fnExactLblOk", fn := fun _ => fun
  | [d] => { results := [.lit (.bool true)], args := [d] }
  | _ => none }
def fnExactLblOkRow : OpenClaim := { program := "ytffbdnnmpopieaa", sum := "c9469bed355942cc41c34828aa55fce44509277a7d9900340d23f18c3d6bd729", func := "loop.example/casemate/laws.FnExactLblOk", spec := "fnExactLblOk", apart := false }
def FnExactLblOkSaid : Prop := fnExactLblOkRow.holds Try.pinned (OpenSpec.ofChange fnExactLblOkSpec)

/-- ITS FALSE NEIGHBOUR: 'it returns false'. Refute it at one input. -/
def fnExactLblOkWrong : ChangeSpec := { name := "fnExactLblOk", fn := fun _ => fun
  | [d] => { results := [.lit (.bool false)], args := [d] }
  | _ => none }
def FnExactLblOkWrongFalsely : Prop := fnExactLblOkRow.holds Try.pinned (OpenSpec.ofChange fnExactLblOkWrong)

/-- 'laws.FnExactLblFlows': WHATEVER THE INPUT: true; the input reads as it did. -/
def fnExactLblFlowsSpec : ChangeSpec := { name := "fnExactLblFlows", fn := fun _ => fun
  | [d1, d2] => { results := [.lit (.bool true)], args := [d1, d2] }
  | _ => none }
def fnExactLblFlowsRow : OpenClaim := { program := "ytffbdnnmpopieaa", sum := "c9469bed355942cc41c34828aa55fce44509277a7d9900340d23f18c3d6bd729", func := "loop.example/casemate/laws.FnExactLblFlows", spec := "fnExactLblFlows", apart := false }
def FnExactLblFlowsSaid : Prop := fnExactLblFlowsRow.holds Try.pinned (OpenSpec.ofChange fnExactLblFlowsSpec)

/-- ITS FALSE NEIGHBOUR: 'it returns false'. Refute it at one input. -/
def fnExactLblFlowsWrong : ChangeSpec := { name := "fnExactLblFlows", fn := fun _ => fun
  | [d1, d2] => { results := [.lit (.bool false)], args := [d1, d2] }
  | _ => none }
def FnExactLblFlowsWrongFalsely : Prop := fnExactLblFlowsRow.holds Try.pinned (OpenSpec.ofChange fnExactLblFlowsWrong)

/-- 'laws.FnExactLblBoth': WHATEVER THE INPUT: true; the input reads as it did. -/
def fnExactLblBothSpec : ChangeSpec := { name := "fnExactLblBoth", fn := fun _ => fun
  | [d1, d2] => { results := [.lit (.bool true)], args := [d1, d2] }
  | _ => none }
def fnExactLblBothRow : OpenClaim := { program := "ytffbdnnmpopieaa", sum := "c9469bed355942cc41c34828aa55fce44509277a7d9900340d23f18c3d6bd729", func := "loop.example/casemate/laws.FnExactLblBoth", spec := "fnExactLblBoth", apart := false }
def FnExactLblBothSaid : Prop := fnExactLblBothRow.holds Try.pinned (OpenSpec.ofChange fnExactLblBothSpec)

/-- ITS FALSE NEIGHBOUR: 'it returns false'. Refute it at one input. -/
def fnExactLblBothWrong : ChangeSpec := { name := "fnExactLblBoth", fn := fun _ => fun
  | [d1, d2] => { results := [.lit (.bool false)], args := [d1, d2] }
  | _ => none }
def FnExactLblBothWrongFalsely : Prop := fnExactLblBothRow.holds Try.pinned (OpenSpec.ofChange fnExactLblBothWrong)

/-- 'laws.FnExactLblCommon': WHATEVER THE INPUT: true; the input reads as it did. -/
def fnExactLblCommonSpec : ChangeSpec := { name := "fnExactLblCommon", fn := fun _ => fun
  | [d1, d2] => { results := [.lit (.bool true)], args := [d1, d2] }
  | _ => none }
def fnExactLblCommonRow : OpenClaim := { program := "ytffbdnnmpopieaa", sum := "c9469bed355942cc41c34828aa55fce44509277a7d9900340d23f18c3d6bd729", func := "loop.example/casemate/laws.FnExactLblCommon", spec := "fnExactLblCommon", apart := false }
def FnExactLblCommonSaid : Prop := fnExactLblCommonRow.holds Try.pinned (OpenSpec.ofChange fnExactLblCommonSpec)

/-- ITS FALSE NEIGHBOUR: 'it returns false'. Refute it at one input. -/
def fnExactLblCommonWrong : ChangeSpec := { name := "fnExactLblCommon", fn := fun _ => fun
  | [d1, d2] => { results := [.lit (.bool false)], args := [d1, d2] }
  | _ => none }
def FnExactLblCommonWrongFalsely : Prop := fnExactLblCommonRow.holds Try.pinned (OpenSpec.ofChange fnExactLblCommonWrong)

/-- 'laws.FnLblOrder': WHATEVER THE INPUT: true; the input reads as it did. -/
def fnLblOrderSpec : ChangeSpec := { name := "fnLblOrder", fn := fun _ => fun
  | [d1, d2] => { results := [.lit (.bool true)], args := [d1, d2] }
  | _ => none }
def fnLblOrderRow : OpenClaim := { program := "ytffbdnnmpopieaa", sum := "c9469bed355942cc41c34828aa55fce44509277a7d9900340d23f18c3d6bd729", func := "loop.example/casemate/laws.FnLblOrder", spec := "fnLblOrder", apart := false }
def FnLblOrderSaid : Prop := fnLblOrderRow.holds Try.pinned (OpenSpec.ofChange fnLblOrderSpec)

/-- ITS FALSE NEIGHBOUR: 'it returns false'. Refute it at one input. -/
def fnLblOrderWrong : ChangeSpec := { name := "fnLblOrder", fn := fun _ => fun
  | [d1, d2] => { results := [.lit (.bool false)], args := [d1, d2] }
  | _ => none }
def FnLblOrderWrongFalsely : Prop := fnLblOrderRow.holds Try.pinned (OpenSpec.ofChange fnLblOrderWrong)

/-- 'laws.FnExactFrmHeadOk': WHATEVER THE INPUT: true; the input reads as it did. -/
def fnExactFrmHeadOkSpec : ChangeSpec := { name := "fnExactFrmHeadOk", fn := fun _ => fun
  | [d] => { results := [.lit (.bool true)], args := [d] }
  | _ => none }
def fnExactFrmHeadOkRow : OpenClaim := { program := "ytffbdnnmpopieaa", sum := "c9469bed355942cc41c34828aa55fce44509277a7d9900340d23f18c3d6bd729", func := "loop.example/casemate/laws.FnExactFrmHeadOk", spec := "fnExactFrmHeadOk", unfollowed := true, recurses := true, apart := false }
def FnExactFrmHeadOkSaid : Prop := fnExactFrmHeadOkRow.holds Try.pinned (OpenSpec.ofChange fnExactFrmHeadOkSpec)

/-- ITS FALSE NEIGHBOUR: 'it returns false'. Refute it at one input. -/
def fnExactFrmHeadOkWrong : ChangeSpec := { name := "fnExactFrmHeadOk", fn := fun _ => fun
  | [d] => { results := [.lit (.bool false)], args := [d] }
  | _ => none }
def FnExactFrmHeadOkWrongFalsely : Prop := fnExactFrmHeadOkRow.holds Try.pinned (OpenSpec.ofChange fnExactFrmHeadOkWrong)

/-- 'laws.FnLblLaws': WHATEVER THE INPUT: true; the input reads as it did. -/
def fnLblLawsSpec : ChangeSpec := { name := "fnLblLaws", fn := fun _ => fun
  | [d1, d2] => { results := [.lit (.bool true)], args := [d1, d2] }
  | _ => none }
def fnLblLawsRow : OpenClaim := { program := "ytffbdnnmpopieaa", sum := "c9469bed355942cc41c34828aa55fce44509277a7d9900340d23f18c3d6bd729", func := "loop.example/casemate/laws.FnLblLaws", spec := "fnLblLaws", apart := false }
def FnLblLawsSaid : Prop := fnLblLawsRow.holds Try.pinned (OpenSpec.ofChange fnLblLawsSpec)

/-- ITS FALSE NEIGHBOUR: 'it returns false'. Refute it at one input. -/
def fnLblLawsWrong : ChangeSpec := { name := "fnLblLaws", fn := fun _ => fun
  | [d1, d2] => { results := [.lit (.bool false)], args := [d1, d2] }
  | _ => none }
def FnLblLawsWrongFalsely : Prop := fnLblLawsRow.holds Try.pinned (OpenSpec.ofChange fnLblLawsWrong)

/-- 'laws.FnLblBounds': WHATEVER THE INPUT: true; the input reads as it did. -/
def fnLblBoundsSpec : ChangeSpec := { name := "fnLblBounds", fn := fun _ => fun
  | [d] => { results := [.lit (.bool true)], args := [d] }
  | _ => none }
def fnLblBoundsRow : OpenClaim := { program := "ytffbdnnmpopieaa", sum := "c9469bed355942cc41c34828aa55fce44509277a7d9900340d23f18c3d6bd729", func := "loop.example/casemate/laws.FnLblBounds", spec := "fnLblBounds", apart := false }
def FnLblBoundsSaid : Prop := fnLblBoundsRow.holds Try.pinned (OpenSpec.ofChange fnLblBoundsSpec)

/-- ITS FALSE NEIGHBOUR: 'it returns false'. Refute it at one input. -/
def fnLblBoundsWrong : ChangeSpec := { name := "fnLblBounds", fn := fun _ => fun
  | [d] => { results := [.lit (.bool false)], args := [d] }
  | _ => none }
def FnLblBoundsWrongFalsely : Prop := fnLblBoundsRow.holds Try.pinned (OpenSpec.ofChange fnLblBoundsWrong)

/-- 'laws.FnExactFrmHeadBytes': WHATEVER THE INPUT: true; the input reads as it did. -/
def fnExactFrmHeadBytesSpec : ChangeSpec := { name := "fnExactFrmHeadBytes", fn := fun _ => fun
  | [d] => { results := [.lit (.bool true)], args := [d] }
  | _ => none }
def fnExactFrmHeadBytesRow : OpenClaim := { program := "ytffbdnnmpopieaa", sum := "c9469bed355942cc41c34828aa55fce44509277a7d9900340d23f18c3d6bd729", func := "loop.example/casemate/laws.FnExactFrmHeadBytes", spec := "fnExactFrmHeadBytes", unfollowed := true, recurses := true, apart := false }
def FnExactFrmHeadBytesSaid : Prop := fnExactFrmHeadBytesRow.holds Try.pinned (OpenSpec.ofChange fnExactFrmHeadBytesSpec)

/-- ITS FALSE NEIGHBOUR: 'it returns false'. Refute it at one input. -/
def fnExactFrmHeadBytesWrong : ChangeSpec := { name := "fnExactFrmHeadBytes", fn := fun _ => fun
  | [d] => { results := [.lit (.bool false)], args := [d] }
  | _ => none }
def FnExactFrmHeadBytesWrongFalsely : Prop := fnExactFrmHeadBytesRow.holds Try.pinned (OpenSpec.ofChange fnExactFrmHeadBytesWrong)

/-- 'laws.FnExactCodOk': WHATEVER THE INPUT: true; the input reads as it did. -/
def fnExactCodOkSpec : ChangeSpec := { name := "fnExactCodOk", fn := fun _ => fun
  | [d] => { results := [.lit (.bool true)], args := [d] }
  | _ => none }
def fnExactCodOkRow : OpenClaim := { program := "ytffbdnnmpopieaa", sum := "c9469bed355942cc41c34828aa55fce44509277a7d9900340d23f18c3d6bd729", func := "loop.example/casemate/laws.FnExactCodOk", spec := "fnExactCodOk", apart := false }
def FnExactCodOkSaid : Prop := fnExactCodOkRow.holds Try.pinned (OpenSpec.ofChange fnExactCodOkSpec)

/-- ITS FALSE NEIGHBOUR: 'it returns false'. Refute it at one input. -/
def fnExactCodOkWrong : ChangeSpec := { name := "fnExactCodOk", fn := fun _ => fun
  | [d] => { results := [.lit (.bool false)], args := [d] }
  | _ => none }
def FnExactCodOkWrongFalsely : Prop := fnExactCodOkRow.holds Try.pinned (OpenSpec.ofChange fnExactCodOkWrong)

/-- 'laws.FnExactFrmPut': WHATEVER THE INPUT: true; the input reads as it did. -/
def fnExactFrmPutSpec : ChangeSpec := { name := "fnExactFrmPut", fn := fun _ => fun
  | [d1, d2] => { results := [.lit (.bool true)], args := [d1, d2] }
  | _ => none }
def fnExactFrmPutRow : OpenClaim := { program := "ytffbdnnmpopieaa", sum := "c9469bed355942cc41c34828aa55fce44509277a7d9900340d23f18c3d6bd729", func := "loop.example/casemate/laws.FnExactFrmPut", spec := "fnExactFrmPut", unfollowed := true, recurses := true, apart := false }
def FnExactFrmPutSaid : Prop := fnExactFrmPutRow.holds Try.pinned (OpenSpec.ofChange fnExactFrmPutSpec)

/-- ITS FALSE NEIGHBOUR: 'it returns false'. Refute it at one input. -/
def fnExactFrmPutWrong : ChangeSpec := { name := "fnExactFrmPut", fn := fun _ => fun
  | [d1, d2] => { results := [.lit (.bool false)], args := [d1, d2] }
  | _ => none }
def FnExactFrmPutWrongFalsely : Prop := fnExactFrmPutRow.holds Try.pinned (OpenSpec.ofChange fnExactFrmPutWrong)

/- THE SECOND FORM. 'bulk': how many values and letters a reading holds, each counted each time it is reached (what is shared counts as often as it is met; a slice's spare places count too). A statement '..UptoSaid' is the law's where the arguments, and the package variables that the reading takes, are together of bulk at most 1048576: NARROWER than '..Said'. Prove '..Said' where nothing that the law and all that it calls make is longer than what came in: it says more and counts as full. Else prove '..UptoSaid'. A law counts once. -/
mutual
def uptoBulk {H : Type} : DataW H → Nat
  | .lit (.string bytes) => bytes.length + 1
  | .lit _ => 1
  | .nil => 1
  | .ptr d => uptoBulk d + 1
  | .slice elems spare => uptoBulkAll elems + uptoBulkAll spare + 1
  | .agg parts => uptoBulkAll parts + 1
  | .iface _ d => uptoBulk d + 1
  | .map entries => uptoBulkEntries entries + 1
  | .held _ => 1
def uptoBulkAll {H : Type} : List (DataW H) → Nat
  | [] => 0
  | d :: r => uptoBulk d + uptoBulkAll r
def uptoBulkEntries {H : Type} : List (Lit × DataW H) → Nat
  | [] => 0
  | x :: r => uptoBulkEntry x + uptoBulkEntries r
def uptoBulkEntry {H : Type} : Lit × DataW H → Nat
  | (.string bytes, d) => bytes.length + uptoBulk d + 1
  | (_, d) => uptoBulk d + 1
 end
def uptoSmall : (H : Type) → List (DataW H) → Bool := fun _ ds => decide (uptoBulkAll ds ≤ 1048576)
def OpenSpec.upto (s : _root_.Go.ChangeSpec) : _root_.Go.OpenSpec := { _root_.Go.OpenSpec.ofChange s with cond := some uptoSmall }

/-- 'laws.FnExactLblOk', WHERE WHAT IT READS IS OF BULK AT MOST 1048576: true; the input reads as it did. -/
def fnExactLblOkUptoRow : OpenClaim := { program := "ytffbdnnmpopieaa", sum := "c9469bed355942cc41c34828aa55fce44509277a7d9900340d23f18c3d6bd729", func := "loop.example/casemate/laws.FnExactLblOk", spec := "fnExactLblOk", apart := false, narrowed := true }
def FnExactLblOkUptoSaid : Prop := fnExactLblOkUptoRow.holds Try.pinned (OpenSpec.upto fnExactLblOkSpec)

/-- 'laws.FnExactLblFlows', WHERE WHAT IT READS IS OF BULK AT MOST 1048576: true; the input reads as it did. -/
def fnExactLblFlowsUptoRow : OpenClaim := { program := "ytffbdnnmpopieaa", sum := "c9469bed355942cc41c34828aa55fce44509277a7d9900340d23f18c3d6bd729", func := "loop.example/casemate/laws.FnExactLblFlows", spec := "fnExactLblFlows", apart := false, narrowed := true }
def FnExactLblFlowsUptoSaid : Prop := fnExactLblFlowsUptoRow.holds Try.pinned (OpenSpec.upto fnExactLblFlowsSpec)

/-- 'laws.FnExactLblBoth', WHERE WHAT IT READS IS OF BULK AT MOST 1048576: true; the input reads as it did. -/
def fnExactLblBothUptoRow : OpenClaim := { program := "ytffbdnnmpopieaa", sum := "c9469bed355942cc41c34828aa55fce44509277a7d9900340d23f18c3d6bd729", func := "loop.example/casemate/laws.FnExactLblBoth", spec := "fnExactLblBoth", apart := false, narrowed := true }
def FnExactLblBothUptoSaid : Prop := fnExactLblBothUptoRow.holds Try.pinned (OpenSpec.upto fnExactLblBothSpec)

/-- 'laws.FnExactLblCommon', WHERE WHAT IT READS IS OF BULK AT MOST 1048576: true; the input reads as it did. -/
def fnExactLblCommonUptoRow : OpenClaim := { program := "ytffbdnnmpopieaa", sum := "c9469bed355942cc41c34828aa55fce44509277a7d9900340d23f18c3d6bd729", func := "loop.example/casemate/laws.FnExactLblCommon", spec := "fnExactLblCommon", apart := false, narrowed := true }
def FnExactLblCommonUptoSaid : Prop := fnExactLblCommonUptoRow.holds Try.pinned (OpenSpec.upto fnExactLblCommonSpec)

/-- 'laws.FnLblOrder', WHERE WHAT IT READS IS OF BULK AT MOST 1048576: true; the input reads as it did. -/
def fnLblOrderUptoRow : OpenClaim := { program := "ytffbdnnmpopieaa", sum := "c9469bed355942cc41c34828aa55fce44509277a7d9900340d23f18c3d6bd729", func := "loop.example/casemate/laws.FnLblOrder", spec := "fnLblOrder", apart := false, narrowed := true }
def FnLblOrderUptoSaid : Prop := fnLblOrderUptoRow.holds Try.pinned (OpenSpec.upto fnLblOrderSpec)

/-- 'laws.FnExactFrmHeadOk', WHERE WHAT IT READS IS OF BULK AT MOST 1048576: true; the input reads as it did. -/
def fnExactFrmHeadOkUptoRow : OpenClaim := { program := "ytffbdnnmpopieaa", sum := "c9469bed355942cc41c34828aa55fce44509277a7d9900340d23f18c3d6bd729", func := "loop.example/casemate/laws.FnExactFrmHeadOk", spec := "fnExactFrmHeadOk", unfollowed := true, recurses := true, apart := false, narrowed := true }
def FnExactFrmHeadOkUptoSaid : Prop := fnExactFrmHeadOkUptoRow.holds Try.pinned (OpenSpec.upto fnExactFrmHeadOkSpec)

/-- 'laws.FnLblLaws', WHERE WHAT IT READS IS OF BULK AT MOST 1048576: true; the input reads as it did. -/
def fnLblLawsUptoRow : OpenClaim := { program := "ytffbdnnmpopieaa", sum := "c9469bed355942cc41c34828aa55fce44509277a7d9900340d23f18c3d6bd729", func := "loop.example/casemate/laws.FnLblLaws", spec := "fnLblLaws", apart := false, narrowed := true }
def FnLblLawsUptoSaid : Prop := fnLblLawsUptoRow.holds Try.pinned (OpenSpec.upto fnLblLawsSpec)

/-- 'laws.FnLblBounds', WHERE WHAT IT READS IS OF BULK AT MOST 1048576: true; the input reads as it did. -/
def fnLblBoundsUptoRow : OpenClaim := { program := "ytffbdnnmpopieaa", sum := "c9469bed355942cc41c34828aa55fce44509277a7d9900340d23f18c3d6bd729", func := "loop.example/casemate/laws.FnLblBounds", spec := "fnLblBounds", apart := false, narrowed := true }
def FnLblBoundsUptoSaid : Prop := fnLblBoundsUptoRow.holds Try.pinned (OpenSpec.upto fnLblBoundsSpec)

/-- 'laws.FnExactFrmHeadBytes', WHERE WHAT IT READS IS OF BULK AT MOST 1048576: true; the input reads as it did. -/
def fnExactFrmHeadBytesUptoRow : OpenClaim := { program := "ytffbdnnmpopieaa", sum := "c9469bed355942cc41c34828aa55fce44509277a7d9900340d23f18c3d6bd729", func := "loop.example/casemate/laws.FnExactFrmHeadBytes", spec := "fnExactFrmHeadBytes", unfollowed := true, recurses := true, apart := false, narrowed := true }
def FnExactFrmHeadBytesUptoSaid : Prop := fnExactFrmHeadBytesUptoRow.holds Try.pinned (OpenSpec.upto fnExactFrmHeadBytesSpec)

/-- 'laws.FnExactCodOk', WHERE WHAT IT READS IS OF BULK AT MOST 1048576: true; the input reads as it did. -/
def fnExactCodOkUptoRow : OpenClaim := { program := "ytffbdnnmpopieaa", sum := "c9469bed355942cc41c34828aa55fce44509277a7d9900340d23f18c3d6bd729", func := "loop.example/casemate/laws.FnExactCodOk", spec := "fnExactCodOk", apart := false, narrowed := true }
def FnExactCodOkUptoSaid : Prop := fnExactCodOkUptoRow.holds Try.pinned (OpenSpec.upto fnExactCodOkSpec)

/-- 'laws.FnExactFrmPut', WHERE WHAT IT READS IS OF BULK AT MOST 1048576: true; the input reads as it did. -/
def fnExactFrmPutUptoRow : OpenClaim := { program := "ytffbdnnmpopieaa", sum := "c9469bed355942cc41c34828aa55fce44509277a7d9900340d23f18c3d6bd729", func := "loop.example/casemate/laws.FnExactFrmPut", spec := "fnExactFrmPut", unfollowed := true, recurses := true, apart := false, narrowed := true }
def FnExactFrmPutUptoSaid : Prop := fnExactFrmPutUptoRow.holds Try.pinned (OpenSpec.upto fnExactFrmPutSpec)

end Rows
end Go.Proofs.Ytffbdnnmpopieaa
