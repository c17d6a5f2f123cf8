/- The law FnExactLblOk, from its printed contract: at every two numbers a label it comes to true. -/
import Derived.Test.YtffbdnnmpopieaaX2
import Derived.Test.YtffbdnnmpopieaaLblP
namespace Go.Proofs.Ytffbdnnmpopieaa.ALblOk
open Go.RowKit Go.Proofs.YtffbdnnmpopieaaW.PrintWords Go.Proofs.Ytffbdnnmpopieaa.X
set_option linter.unusedVariables false
theorem pure (x0 : Int × Int) : laws_FnExactLblOk.f x0.1 x0.2 = some true := by
  simp only [laws_FnExactLblOk.f, laws_toLblLabel.f, spec_LblOk.f, impl_LblOk.f, spec_l1In.f, impl_lblLevel_ok.f, impl_lblMarks_ok.f, Option.bind_some]
  by_cases h1 : x0.1 ≥ 0 <;> by_cases h2 : x0.1 ≤ 3 <;> by_cases h3 : x0.2 ≥ 0 <;> simp [h1, h2, h3]
theorem con (cs0 : Array Value) (x0 : Int × Int) (W : World) (hx0 : LblP.kl.K W x0 (Value.cells (.agg cs0)).toList) (hp0 : (Lit.int .i64 x0.1).wf = true ∧ (Lit.int .i64 x0.2).wf = true) :
    Calls Try.prog 3 #[.agg cs0] W fun e w' => e = .returned (.bool true) ∧ Below W.heap.size W w' := by
  obtain rfl := LblP.agg_of hx0
  exact laws_FnExactLblOk.calls x0.1 x0.2 true W (pure x0)
end Go.Proofs.Ytffbdnnmpopieaa.ALblOk
