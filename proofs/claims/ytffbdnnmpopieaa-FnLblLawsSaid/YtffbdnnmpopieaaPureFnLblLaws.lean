/- FnLblLaws, the plain law: of what is drawn the least and the greatest bounds hang on neither order nor brackets, and each takes the other one up. -/
import Derived.Test.YtffbdnnmpopieaaZ22
import Derived.Test.YtffbdnnmpopieaaLblL
namespace Go.Proofs.Ytffbdnnmpopieaa.Pure
open Go.RowKit Go.Proofs.Ytffbdnnmpopieaa.Z Go.Proofs.YtffbdnnmpopieaaW.PrintWords Go.Proofs.YtffbdnnmpopieaaW.PrintLast Go.Proofs.Ytffbdnnmpopieaa.LblL Go.Proofs.Ytffbdnnmpopieaa.DrawL
set_option linter.unusedVariables false

theorem laws_draw (k : Nat) (l : List Int) (hb : ∀ x ∈ l, (Lit.int .u8 x).wf = true) : ∃ a b c d, spec_DrawLblCommon.f (k + 1) l = some (a, b, c, d) := by
  obtain ⟨s, e0, hs⟩ := open_ok l hb
  obtain ⟨a, b, q, e1, g1, g2⟩ := label_ok k hs 0 (by omega) (by omega)
  obtain ⟨c, d, q2, e2⟩ := near_ok k hs q a b (by omega) (by omega)
  exact ⟨a, b, c, d, by simp only [spec_DrawLblCommon.f, e0, e1, e2, Option.bind_some]⟩
theorem laws_point : commonV 2 3 1 6 = (1, 2) := by decide +kernel

section
variable {a b c d e f : Int}
theorem both_assoc (h1 : okB a b = true) (h2 : okB c d = true) (h3 : okB e f = true) :
    bothV a b (bothV c d e f).1 (bothV c d e f).2 = bothV (bothV a b c d).1 (bothV a b c d).2 e f := by
  rw [bothV_ok h2 h3, bothV_ok h1 h2, bothV_ok h1 (ok_both h2 h3), bothV_ok (ok_both h1 h2) h3]
  obtain ⟨_, _, r, s⟩ := ok_iff.1 h1
  obtain ⟨_, _, r', s'⟩ := ok_iff.1 h2
  obtain ⟨_, _, r'', s''⟩ := ok_iff.1 h3
  rw [or_assoc r s r' s' r'' s'']
  refine Prod.ext ?_ rfl
  simp only
  repeat' split
  all_goals omega
theorem both_comm (h1 : okB a b = true) (h2 : okB c d = true) : bothV a b c d = bothV c d a b := by
  rw [bothV_ok h1 h2, bothV_ok h2 h1]
  obtain ⟨_, _, r, s⟩ := ok_iff.1 h1
  obtain ⟨_, _, r', s'⟩ := ok_iff.1 h2
  rw [or_comm r s r' s']
  refine Prod.ext ?_ rfl
  simp only
  repeat' split
  all_goals omega
theorem common_assoc (h1 : okB a b = true) (h2 : okB c d = true) (h3 : okB e f = true) :
    commonV a b (commonV c d e f).1 (commonV c d e f).2 = commonV (commonV a b c d).1 (commonV a b c d).2 e f := by
  rw [commonV_ok h2 h3, commonV_ok h1 h2, commonV_ok h1 (ok_common h2 h3), commonV_ok (ok_common h1 h2) h3]
  obtain ⟨_, _, r, s⟩ := ok_iff.1 h1
  obtain ⟨_, _, r', s'⟩ := ok_iff.1 h2
  obtain ⟨_, _, r'', s''⟩ := ok_iff.1 h3
  rw [and_assoc r s r' s' r'' s'']
  refine Prod.ext ?_ rfl
  simp only
  repeat' split
  all_goals omega
theorem common_comm (h1 : okB a b = true) (h2 : okB c d = true) : commonV a b c d = commonV c d a b := by
  rw [commonV_ok h1 h2, commonV_ok h2 h1]
  obtain ⟨_, _, r, s⟩ := ok_iff.1 h1
  obtain ⟨_, _, r', s'⟩ := ok_iff.1 h2
  rw [and_comm r s r' s']
  refine Prod.ext ?_ rfl
  simp only
  repeat' split
  all_goals omega
theorem both_abs (h1 : okB a b = true) (h2 : okB c d = true) : bothV a b (commonV a b c d).1 (commonV a b c d).2 = (a, b) := by
  rw [commonV_ok h1 h2, bothV_ok h1 (ok_common h1 h2)]
  obtain ⟨_, _, r, s⟩ := ok_iff.1 h1
  obtain ⟨_, _, r', s'⟩ := ok_iff.1 h2
  rw [or_abs r s r' s']
  refine Prod.ext ?_ rfl
  simp only
  repeat' split
  all_goals omega
theorem common_abs (h1 : okB a b = true) (h2 : okB c d = true) : commonV a b (bothV a b c d).1 (bothV a b c d).2 = (a, b) := by
  rw [bothV_ok h1 h2, commonV_ok h1 (ok_both h1 h2)]
  obtain ⟨_, _, r, s⟩ := ok_iff.1 h1
  obtain ⟨_, _, r', s'⟩ := ok_iff.1 h2
  rw [and_abs r s r' s']
  refine Prod.ext ?_ rfl
  simp only
  repeat' split
  all_goals omega
end

theorem FnLblLaws : laws_FnLblLaws.Pure := by
  intro l0 l1 _ _ hb0 _ _ hb1
  refine ⟨6, ?_⟩
  obtain ⟨a, b, c, d, e0⟩ := laws_draw 4 l0 hb0
  obtain ⟨e, f, g, h, e1⟩ := laws_draw 4 l1 hb1
  have jt : laws_FnLblLaws.j1 5 true a b c d e f = some true := by
    simp only [laws_FnLblLaws.j1, impl_common, spec_common, impl_both, spec_both, Option.bind_some, laws_point]
    simp
  have jf : okB a b = true → okB c d = true → okB e f = true → laws_FnLblLaws.j1 5 false a b c d e f = some true := by
    intro h1 h2 h3
    have p1 := both_assoc h1 h2 h3
    have p2 := both_comm h1 h2
    have p3 := common_assoc h1 h2 h3
    have p4 := common_comm h1 h2
    have p5 := both_abs h1 h2
    have p6 := common_abs h1 h2
    simp only [laws_FnLblLaws.j1, laws_FnLblLaws.j2, laws_FnLblLaws.j3, impl_common, impl_both, Option.bind_some, p1, p2, p3, p4]
    rw [← p2, ← p4, p5, p6]
    simp
  have j0 : laws_FnLblLaws.j0 6 l0 l1 false = some true := by
    simp only [laws_FnLblLaws.j0, e0, e1, spec_ok, Option.bind_some]
    cases h1 : okB a b
    · simpa using jt
    · cases h2 : okB c d
      · simpa using jt
      · cases h3 : okB e f
        · simpa using jt
        · simpa using jf h1 h2 h3
  have jz : laws_FnLblLaws.j0 6 l0 l1 true = some true := by simp [laws_FnLblLaws.j0]
  unfold laws_FnLblLaws.f
  split
  · exact jz
  · cases decide ((l1.length : Int) > 1048576)
    · exact j0
    · exact jz
end Go.Proofs.Ytffbdnnmpopieaa.Pure
