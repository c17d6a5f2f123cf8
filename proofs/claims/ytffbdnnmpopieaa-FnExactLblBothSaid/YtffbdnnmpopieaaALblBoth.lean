/- The law FnExactLblBoth, from its printed contract: at every two numbers a label it comes to true. -/
import Derived.Test.YtffbdnnmpopieaaX9
import Derived.Test.YtffbdnnmpopieaaLblP
namespace Go.Proofs.Ytffbdnnmpopieaa.ALblBoth
open Go.RowKit Go.Proofs.YtffbdnnmpopieaaW.PrintWords Go.Proofs.Ytffbdnnmpopieaa.X
set_option linter.unusedVariables false
theorem pure (x0 x1 : Int × Int) : laws_FnExactLblBoth.f 1 x0.1 x0.2 x1.1 x1.2 = some true := by
  simp only [laws_FnExactLblBoth.f, laws_toLblLabel.f, spec_LblBoth.f, spec_LblBoth.j0, impl_LblBoth.f, spec_LblOk.f, impl_LblOk.f, spec_l1In.f, impl_lblLevel_ok.f, impl_lblMarks_ok.f, impl_lblGreater_int.f, laws_eqLblLabel.f, Option.bind_some]
  by_cases h1 : x0.1 ≥ 0 <;> by_cases h2 : x0.1 ≤ 3 <;> by_cases h3 : x0.2 ≥ 0 <;> by_cases h4 : x0.2 ≤ 15 <;> simp [h1, h2, h3, h4]
  by_cases g1 : x1.1 ≥ 0 <;> by_cases g2 : x1.1 ≤ 3 <;> by_cases g3 : x1.2 ≥ 0 <;> by_cases g4 : x1.2 ≤ 15 <;> simp [g1, g2, g3, g4]
  by_cases c : x0.1 < x1.1 <;> simp [c]
theorem con (cs0 : Array Value) (x0 : Int × Int) (cs1 : Array Value) (x1 : Int × Int) (W : World) (hx0 : LblP.kl.K W x0 (Value.cells (.agg cs0)).toList) (hx1 : LblP.kl.K W x1 (Value.cells (.agg cs1)).toList) (hp0 : (Lit.int .i64 x0.1).wf = true ∧ (Lit.int .i64 x0.2).wf = true) (hp1 : (Lit.int .i64 x1.1).wf = true ∧ (Lit.int .i64 x1.2).wf = true) :
    Calls Try.prog 5 #[.agg cs0, .agg cs1] W fun e w' => e = .returned (.bool true) ∧ Below W.heap.size W w' := by
  obtain rfl := LblP.agg_of hx0
  obtain rfl := LblP.agg_of hx1
  exact laws_FnExactLblBoth.calls 1 x0.1 x0.2 x1.1 x1.2 true W (pure x0 x1)
end Go.Proofs.Ytffbdnnmpopieaa.ALblBoth
