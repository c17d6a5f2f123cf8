/- FnLblOrder, the plain law: of what is drawn the label order is an order. -/
import Derived.Test.YtffbdnnmpopieaaZ20
import Derived.Test.YtffbdnnmpopieaaLblL
namespace Go.Proofs.Ytffbdnnmpopieaa.Pure
open Go.RowKit Go.Proofs.Ytffbdnnmpopieaa.Z Go.Proofs.YtffbdnnmpopieaaW.PrintWords Go.Proofs.YtffbdnnmpopieaaW.PrintLast Go.Proofs.Ytffbdnnmpopieaa.LblL Go.Proofs.Ytffbdnnmpopieaa.DrawL
set_option linter.unusedVariables false

theorem order_draw (k : Nat) (l : List Int) (hb : ∀ x ∈ l, (Lit.int .u8 x).wf = true) : ∃ a b c d, spec_DrawLblFlows.f (k + 1) l = some (a, b, c, d) := by
  obtain ⟨s, e0, hs⟩ := open_ok l hb
  obtain ⟨a, b, q, e1, g1, g2⟩ := label_ok k hs 0 (by omega) (by omega)
  obtain ⟨c, d, q2, e2⟩ := near_ok k hs q a b (by omega) (by omega)
  exact ⟨a, b, c, d, by simp only [spec_DrawLblFlows.f, e0, e1, e2, Option.bind_some]⟩
theorem order_ends : flowsB 0 0 3 15 = true := by decide +kernel

theorem FnLblOrder : laws_FnLblOrder.Pure := by
  intro l0 l1 _ _ hb0 _ _ hb1
  refine ⟨5, ?_⟩
  obtain ⟨a, b, c, d, e0⟩ := order_draw 3 l0 hb0
  obtain ⟨e, f, g, h, e1⟩ := order_draw 3 l1 hb1
  have j2 : laws_FnLblOrder.j2 3 false a b c d e f = some true := by
    simp only [laws_FnLblOrder.j2, impl_flows, Option.bind_some, order_ends]
    cases h1 : flowsB a b c d
    · simp
    · cases h2 : flowsB c d e f
      · simp
      · simp [flows_trans h1 h2]
  have j1 : laws_FnLblOrder.j1 4 false a b c d e f = some true := by
    simp only [laws_FnLblOrder.j1, impl_flows, Option.bind_some]
    cases h1 : flowsB a b c d
    · simpa using j2
    · cases h2 : flowsB c d a b
      · simpa using j2
      · obtain ⟨rfl, rfl⟩ := flows_anti h1 h2
        simpa using j2
  have j0 : laws_FnLblOrder.j0 5 l0 l1 false = some true := by
    simp only [laws_FnLblOrder.j0, e0, e1, impl_flows, spec_flows, impl_ok, flows_self, Option.bind_some]
    simpa using j1
  have jt : laws_FnLblOrder.j0 5 l0 l1 true = some true := by simp [laws_FnLblOrder.j0]
  unfold laws_FnLblOrder.f
  split
  · exact jt
  · cases decide ((l1.length : Int) > 1048576)
    · exact j0
    · exact jt
end Go.Proofs.Ytffbdnnmpopieaa.Pure
