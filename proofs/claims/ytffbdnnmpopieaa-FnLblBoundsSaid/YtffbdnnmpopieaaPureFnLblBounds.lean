/- FnLblBounds, the plain law: of what is drawn the least bound above two and the greatest below two are these, against all labels. -/
import Derived.Test.YtffbdnnmpopieaaY15
import Derived.Test.YtffbdnnmpopieaaYLblL
namespace Go.Proofs.Ytffbdnnmpopieaa.Pure
open Go.RowKit Go.Proofs.Ytffbdnnmpopieaa.Y Go.Proofs.YtffbdnnmpopieaaW.PrintWords Go.Proofs.YtffbdnnmpopieaaW.PrintLast Go.Proofs.Ytffbdnnmpopieaa.YLblL Go.Proofs.Ytffbdnnmpopieaa.YDrawL
set_option linter.unusedVariables false

theorem bounds_draw (k : Nat) (l : List Int) (hb : ∀ x ∈ l, (Lit.int .u8 x).wf = true) : ∃ a b c d, spec_DrawLblBoth.f (k + 1) l = some (a, b, c, d) := by
  obtain ⟨s, e0, hs⟩ := open_ok l hb
  obtain ⟨a, b, q, e1, g1, g2⟩ := label_ok k hs 0 (by omega) (by omega)
  obtain ⟨c, d, q2, e2⟩ := near_ok k hs q a b (by omega) (by omega)
  exact ⟨a, b, c, d, by simp only [spec_DrawLblBoth.f, e0, e1, e2, Option.bind_some]⟩
theorem bounds_point : bothV 1 0 0 2 = (1, 2) := by decide +kernel
theorem up16 : ∀ a b c : Fin 16, (O (O (a.val : Int) (b.val : Int)) (c.val : Int) == (c.val : Int)) = ((O (a.val : Int) (c.val : Int) == (c.val : Int)) && (O (b.val : Int) (c.val : Int) == (c.val : Int))) := by decide +kernel
theorem down16 : ∀ a b c : Fin 16, (O (c.val : Int) (A (a.val : Int) (b.val : Int)) == A (a.val : Int) (b.val : Int)) = ((O (c.val : Int) (a.val : Int) == (a.val : Int)) && (O (c.val : Int) (b.val : Int) == (b.val : Int))) := by decide +kernel

section
variable {a b c d p q : Int}
theorem flows_up (h1 : okB a b = true) (h2 : okB c d = true) : flowsB (bothV a b c d).1 (bothV a b c d).2 p q = (flowsB a b p q && flowsB c d p q) := by
  rw [bothV_ok h1 h2]
  simp only [flowsB, ok_both h1 h2, h1, h2, Bool.true_and]
  cases h3 : okB p q
  · simp
  · obtain ⟨_, _, r, s⟩ := ok_iff.1 h1
    obtain ⟨_, _, r', s'⟩ := ok_iff.1 h2
    obtain ⟨_, _, r'', s''⟩ := ok_iff.1 h3
    obtain ⟨i, rfl⟩ := fin16 b r s; obtain ⟨j, rfl⟩ := fin16 d r' s'; obtain ⟨m, rfl⟩ := fin16 q r'' s''
    rw [up16 i j m]
    by_cases g1 : a ≤ p <;> by_cases g2 : c ≤ p
    · have : (if a < c then c else a) ≤ p := by split <;> omega
      simp [g1, g2, this]
    · have : ¬ (if a < c then c else a) ≤ p := by split <;> omega
      simp [g2, this]
    · have : ¬ (if a < c then c else a) ≤ p := by split <;> omega
      simp [g1, this]
    · have : ¬ (if a < c then c else a) ≤ p := by split <;> omega
      simp [g1, this]
theorem flows_down (h1 : okB a b = true) (h2 : okB c d = true) : flowsB p q (commonV a b c d).1 (commonV a b c d).2 = (flowsB p q a b && flowsB p q c d) := by
  rw [commonV_ok h1 h2]
  simp only [flowsB, ok_common h1 h2, h1, h2, Bool.true_and]
  cases h3 : okB p q
  · simp
  · obtain ⟨_, _, r, s⟩ := ok_iff.1 h1
    obtain ⟨_, _, r', s'⟩ := ok_iff.1 h2
    obtain ⟨_, _, r'', s''⟩ := ok_iff.1 h3
    obtain ⟨i, rfl⟩ := fin16 b r s; obtain ⟨j, rfl⟩ := fin16 d r' s'; obtain ⟨m, rfl⟩ := fin16 q r'' s''
    rw [down16 i j m]
    by_cases g1 : p ≤ a <;> by_cases g2 : p ≤ c
    · have : p ≤ (if c < a then c else a) := by split <;> omega
      simp [g1, g2, this]
    · have : ¬ p ≤ (if c < a then c else a) := by split <;> omega
      simp [g2, this]
    · have : ¬ p ≤ (if c < a then c else a) := by split <;> omega
      simp [g1, this]
    · have : ¬ p ≤ (if c < a then c else a) := by split <;> omega
      simp [g1, this]
theorem bounds_all (h1 : okB a b = true) (h2 : okB c d = true) (m : Nat) : ∀ (k : Nat) (n : Int), 0 ≤ n → n ≤ 64 → 64 - n = (m : Int) → m < k →
    laws_FnLblBounds.l0 k n a b c d (bothV a b c d).1 (bothV a b c d).2 (commonV a b c d).1 (commonV a b c d).2 = some true := by
  induction m with
  | zero =>
    intro k n h0 hn hm hk
    obtain ⟨k, rfl⟩ : ∃ z, k = z + 1 := ⟨k - 1, by omega⟩
    simp only [laws_FnLblBounds.l0]
    rw [if_neg (by omega)]
  | succ m ih =>
    intro k n h0 hn hm hk
    obtain ⟨k, rfl⟩ : ∃ z, k = z + 1 := ⟨k - 1, by omega⟩
    have hw : wrap64 (n + 1) = n + 1 := w64 _ (by omega) (by omega)
    have hi := ih k (n + 1) (by omega) (by omega) (by omega) (by omega)
    simp only [laws_FnLblBounds.l0, impl_flows, Option.bind_some, flows_up h1 h2, flows_down h1 h2, hw]
    rw [if_pos (by omega)]
    cases flowsB a b (wrap64 (Int.tdiv n 16)) (Int.tmod n 16) <;> cases flowsB (wrap64 (Int.tdiv n 16)) (Int.tmod n 16) a b <;> simp [hi]
end

theorem FnLblBounds : laws_FnLblBounds.Pure := by
  intro l0 _ _ hb0
  refine ⟨70, ?_⟩
  obtain ⟨a, b, c, d, e0⟩ := bounds_draw 69 l0 hb0
  have hup : okB (bothV a b c d).1 (bothV a b c d).2 = true := by
    by_cases h : okB a b = true ∧ okB c d = true
    · rw [bothV_ok h.1 h.2]; exact ok_both h.1 h.2
    · unfold bothV; rw [if_neg h]; decide
  have hdn : okB (commonV a b c d).1 (commonV a b c d).2 = true := by
    by_cases h : okB a b = true ∧ okB c d = true
    · rw [commonV_ok h.1 h.2]; exact ok_common h.1 h.2
    · unfold commonV; rw [if_neg h]; decide
  have jt : ¬ (okB a b = true ∧ okB c d = true) → laws_FnLblBounds.j1 69 true a b c d (bothV a b c d).1 (bothV a b c d).2 (commonV a b c d).1 (commonV a b c d).2 = some true := by
    intro h
    have u : bothV a b c d = (0, 0) := by unfold bothV; rw [if_neg h]
    have v : commonV a b c d = (0, 0) := by unfold commonV; rw [if_neg h]
    rw [u, v]
    simp only [laws_FnLblBounds.j1, impl_both, Option.bind_some, bounds_point]
    simp
  have j0 : laws_FnLblBounds.j0 70 false a b c d (bothV a b c d).1 (bothV a b c d).2 (commonV a b c d).1 (commonV a b c d).2 = some true := by
    simp only [laws_FnLblBounds.j0, impl_ok, Option.bind_some]
    cases h1 : okB a b
    · simpa using jt (by simp [h1])
    · cases h2 : okB c d
      · simpa using jt (by simp [h2])
      · have := bounds_all h1 h2 64 68 0 (by omega) (by omega) (by omega) (by omega)
        simpa [laws_FnLblBounds.j1] using this
  unfold laws_FnLblBounds.f
  split
  · rfl
  · simp only [e0, impl_both, impl_common, spec_both, spec_common, impl_ok, Option.bind_some, hup, hdn]
    simpa using j0
end Go.Proofs.Ytffbdnnmpopieaa.Pure
