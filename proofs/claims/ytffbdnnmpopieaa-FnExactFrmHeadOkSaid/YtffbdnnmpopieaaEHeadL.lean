/- Plain law: the reference's look at a head tells what the program's tells. -/
import Derived.Test.YtffbdnnmpopieaaE2
import Derived.Test.YtffbdnnmpopieaaE4
namespace Go.Proofs.Ytffbdnnmpopieaa.EHeadL
open Go.RowKit Go.Proofs.YtffbdnnmpopieaaW.PrintWords Go.Proofs.YtffbdnnmpopieaaW.PrintLast Go.Proofs.Ytffbdnnmpopieaa.E
set_option linter.unusedVariables false
set_option linter.unusedSimpArgs false
theorem in_rng (a lo hi : Int) : spec_l1In.f a lo hi = some (decide (lo ≤ a ∧ a ≤ hi)) := by
  unfold spec_l1In.f
  by_cases h : a ≥ lo
  · rw [if_pos h]; congr 1; rw [Bool.eq_iff_iff]; simp; omega
  · rw [if_neg h]; congr 1; symm; simp; omega
theorem spec_head (k : Nat) (a b c d e f g h : Int) : spec_FrmHeadOk.f (k + 1) a b c d e f g h = some (impl_FrmHeadOk.okB a b c d e f g h) := by
  simp only [spec_FrmHeadOk.f, spec_FrmHeadOk.j0, in_rng, Option.bind_some, impl_FrmHeadOk.okB, impl_FrmHeadOk.okC]
  by_cases h1 : 0 ≤ b ∧ b ≤ 3
  · by_cases h2 : 1 ≤ e ∧ e ≤ 65535
    · by_cases h3 : 0 ≤ h ∧ h ≤ 65535
      · have hh : (0 ≤ b ∧ b ≤ 3 ∧ 1 ≤ e ∧ e ≤ 65535 ∧ 0 ≤ h ∧ h ≤ 65535) := by omega
        simp only [h1, h2, h3, hh, decide_true, if_true, Bool.not_true, Bool.true_and, and_self]
        by_cases a1 : a = 1
        · simp only [a1, if_true]
          simp [impl_FrmHeadOk.fl1]
          by_cases p1 : c = 255 <;> by_cases p2 : d = 255 <;> by_cases p3 : f = 0 <;> simp [p1, p2, p3] <;> rfl
        · simp only [a1, if_false]
          by_cases a2 : a = 2
          · simp only [a2, if_true]
            simp [impl_FrmHeadOk.fl2]
            by_cases p1 : 0 ≤ c ∧ c ≤ 3 <;> by_cases p2 : c = b <;> by_cases p3 : 0 ≤ d ∧ d ≤ 9 <;> by_cases p4 : 0 ≤ f ∧ f ≤ 65535 <;> simp [p1, p2, p3, p4] <;> omega
          · simp [a2]
      · have hh : ¬ (0 ≤ b ∧ b ≤ 3 ∧ 1 ≤ e ∧ e ≤ 65535 ∧ 0 ≤ h ∧ h ≤ 65535) := by omega
        simp only [h1, h2, h3, hh, decide_true, decide_false, if_true, Bool.not_false, Bool.false_and, and_self]
        simp
    · have hh : ¬ (0 ≤ b ∧ b ≤ 3 ∧ 1 ≤ e ∧ e ≤ 65535 ∧ 0 ≤ h ∧ h ≤ 65535) := by omega
      simp only [h1, h2, hh, decide_true, decide_false, if_true, Bool.false_and, and_self]
      simp
      split <;> intros <;> first | rfl | omega
  · have hh : ¬ (0 ≤ b ∧ b ≤ 3 ∧ 1 ≤ e ∧ e ≤ 65535 ∧ 0 ≤ h ∧ h ≤ 65535) := by omega
    simp only [h1, hh, decide_false, Bool.false_and]
    simp
end Go.Proofs.Ytffbdnnmpopieaa.EHeadL
