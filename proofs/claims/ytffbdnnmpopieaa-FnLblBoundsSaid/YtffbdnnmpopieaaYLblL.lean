/- Plain law of labels: what the program's and the reference's functions tell, and that it is an order with least and greatest bounds. -/
import Derived.Test.YtffbdnnmpopieaaYDrawL
import Derived.Test.YtffbdnnmpopieaaY2
import Derived.Test.YtffbdnnmpopieaaY3
import Derived.Test.YtffbdnnmpopieaaY4
import Derived.Test.YtffbdnnmpopieaaY6
import Derived.Test.YtffbdnnmpopieaaY7
import Derived.Test.YtffbdnnmpopieaaY9
namespace Go.Proofs.Ytffbdnnmpopieaa.YLblL
open Go.RowKit Go.Proofs.YtffbdnnmpopieaaW.PrintWords Go.Proofs.YtffbdnnmpopieaaW.PrintLast Go.Proofs.Ytffbdnnmpopieaa.Y
set_option linter.unusedVariables false
set_option linter.unusedSimpArgs false

def okB (a b : Int) : Bool := decide (0 ≤ a ∧ a ≤ 3 ∧ 0 ≤ b ∧ b ≤ 15)
abbrev O (b d : Int) : Int := Go.bits .or .i64 b d
abbrev A (b d : Int) : Int := Go.bits .and .i64 b d
def flowsB (a b c d : Int) : Bool := okB a b && (okB c d && (decide (a ≤ c) && (O b d == d)))
theorem ok_iff {a b : Int} : okB a b = true ↔ 0 ≤ a ∧ a ≤ 3 ∧ 0 ≤ b ∧ b ≤ 15 := by simp [okB]
theorem fin16 (a : Int) (h0 : 0 ≤ a) (h1 : a ≤ 15) : ∃ i : Fin 16, a = (i.val : Int) := ⟨⟨a.toNat, by omega⟩, by simp only; omega⟩
theorem or_rng16 : ∀ a b : Fin 16, 0 ≤ O (a.val : Int) (b.val : Int) ∧ O (a.val : Int) (b.val : Int) ≤ 15 := by decide +kernel
theorem and_rng16 : ∀ a b : Fin 16, 0 ≤ A (a.val : Int) (b.val : Int) ∧ A (a.val : Int) (b.val : Int) ≤ 15 := by decide +kernel
theorem or_comm16 : ∀ a b : Fin 16, O (a.val : Int) (b.val : Int) = O (b.val : Int) (a.val : Int) := by decide +kernel
theorem and_comm16 : ∀ a b : Fin 16, A (a.val : Int) (b.val : Int) = A (b.val : Int) (a.val : Int) := by decide +kernel
theorem or_assoc16 : ∀ a b c : Fin 16, O (O (a.val : Int) (b.val : Int)) (c.val : Int) = O (a.val : Int) (O (b.val : Int) (c.val : Int)) := by decide +kernel
theorem and_assoc16 : ∀ a b c : Fin 16, A (A (a.val : Int) (b.val : Int)) (c.val : Int) = A (a.val : Int) (A (b.val : Int) (c.val : Int)) := by decide +kernel
theorem abs16 : ∀ a b : Fin 16, O (a.val : Int) (A (a.val : Int) (b.val : Int)) = (a.val : Int) ∧ A (a.val : Int) (O (a.val : Int) (b.val : Int)) = (a.val : Int) := by decide +kernel
theorem self16 : ∀ a : Fin 16, O (a.val : Int) (a.val : Int) = (a.val : Int) := by decide +kernel
theorem within16 : ∀ a b : Fin 16, (Go.bits .andNot .i64 (a.val : Int) (b.val : Int) == 0) = (O (a.val : Int) (b.val : Int) == (b.val : Int)) := by decide +kernel

section
variable {a b c : Int}
theorem or_rng (a0 : 0 ≤ a) (a1 : a ≤ 15) (b0 : 0 ≤ b) (b1 : b ≤ 15) : 0 ≤ O a b ∧ O a b ≤ 15 := by
  obtain ⟨i, rfl⟩ := fin16 a a0 a1; obtain ⟨j, rfl⟩ := fin16 b b0 b1; exact or_rng16 i j
theorem and_rng (a0 : 0 ≤ a) (a1 : a ≤ 15) (b0 : 0 ≤ b) (b1 : b ≤ 15) : 0 ≤ A a b ∧ A a b ≤ 15 := by
  obtain ⟨i, rfl⟩ := fin16 a a0 a1; obtain ⟨j, rfl⟩ := fin16 b b0 b1; exact and_rng16 i j
theorem or_comm (a0 : 0 ≤ a) (a1 : a ≤ 15) (b0 : 0 ≤ b) (b1 : b ≤ 15) : O a b = O b a := by
  obtain ⟨i, rfl⟩ := fin16 a a0 a1; obtain ⟨j, rfl⟩ := fin16 b b0 b1; exact or_comm16 i j
theorem and_comm (a0 : 0 ≤ a) (a1 : a ≤ 15) (b0 : 0 ≤ b) (b1 : b ≤ 15) : A a b = A b a := by
  obtain ⟨i, rfl⟩ := fin16 a a0 a1; obtain ⟨j, rfl⟩ := fin16 b b0 b1; exact and_comm16 i j
theorem or_assoc (a0 : 0 ≤ a) (a1 : a ≤ 15) (b0 : 0 ≤ b) (b1 : b ≤ 15) (c0 : 0 ≤ c) (c1 : c ≤ 15) : O (O a b) c = O a (O b c) := by
  obtain ⟨i, rfl⟩ := fin16 a a0 a1; obtain ⟨j, rfl⟩ := fin16 b b0 b1; obtain ⟨k, rfl⟩ := fin16 c c0 c1; exact or_assoc16 i j k
theorem and_assoc (a0 : 0 ≤ a) (a1 : a ≤ 15) (b0 : 0 ≤ b) (b1 : b ≤ 15) (c0 : 0 ≤ c) (c1 : c ≤ 15) : A (A a b) c = A a (A b c) := by
  obtain ⟨i, rfl⟩ := fin16 a a0 a1; obtain ⟨j, rfl⟩ := fin16 b b0 b1; obtain ⟨k, rfl⟩ := fin16 c c0 c1; exact and_assoc16 i j k
theorem or_abs (a0 : 0 ≤ a) (a1 : a ≤ 15) (b0 : 0 ≤ b) (b1 : b ≤ 15) : O a (A a b) = a := by
  obtain ⟨i, rfl⟩ := fin16 a a0 a1; obtain ⟨j, rfl⟩ := fin16 b b0 b1; exact (abs16 i j).1
theorem and_abs (a0 : 0 ≤ a) (a1 : a ≤ 15) (b0 : 0 ≤ b) (b1 : b ≤ 15) : A a (O a b) = a := by
  obtain ⟨i, rfl⟩ := fin16 a a0 a1; obtain ⟨j, rfl⟩ := fin16 b b0 b1; exact (abs16 i j).2
theorem or_self (a0 : 0 ≤ a) (a1 : a ≤ 15) : O a a = a := by
  obtain ⟨i, rfl⟩ := fin16 a a0 a1; exact self16 i
theorem within (a0 : 0 ≤ a) (a1 : a ≤ 15) (b0 : 0 ≤ b) (b1 : b ≤ 15) : (Go.bits .andNot .i64 a b == 0) = (O a b == b) := by
  obtain ⟨i, rfl⟩ := fin16 a a0 a1; obtain ⟨j, rfl⟩ := fin16 b b0 b1; exact within16 i j
end

theorem spec_ok (a b : Int) : spec_LblOk.f a b = some (okB a b) := by
  simp only [spec_LblOk.f, spec_l1In.f, okB]
  by_cases h1 : a ≥ 0 <;> by_cases h2 : a ≤ 3 <;> by_cases h3 : b ≥ 0 <;> simp [h1, h2, h3] <;> omega
theorem impl_ok (a b : Int) : impl_LblOk.f a b = some (okB a b) := by
  simp only [impl_LblOk.f, impl_lblLevel_ok.f, impl_lblMarks_ok.f, okB]
  by_cases h1 : a ≥ 0 <;> by_cases h2 : a ≤ 3 <;> by_cases h3 : b ≥ 0 <;> simp [h1, h2, h3] <;> omega
theorem impl_flows (a b c d : Int) : impl_LblFlows.f a b c d = some (flowsB a b c d) := by
  simp only [impl_LblFlows.f, impl_ok, flowsB, impl_lblMarks_within.f, Option.bind_some]
  cases h1 : okB a b <;> cases h2 : okB c d <;> by_cases h : a ≤ c <;> simp [h]
  obtain ⟨_, _, p, q⟩ := ok_iff.1 h1
  obtain ⟨_, _, r, s⟩ := ok_iff.1 h2
  exact within p q r s
def bothV (a b c d : Int) : Int × Int := if okB a b = true ∧ okB c d = true then (if a < c then c else a, O b d) else (0, 0)
def commonV (a b c d : Int) : Int × Int := if okB a b = true ∧ okB c d = true then (if c < a then c else a, A b d) else (0, 0)
theorem impl_both (a b c d : Int) : impl_LblBoth.f a b c d = some (bothV a b c d) := by
  simp only [impl_LblBoth.f, impl_ok, impl_lblGreater_int.f, bothV, Option.bind_some]
  cases okB a b <;> cases okB c d <;> by_cases h : a < c <;> simp [h]
theorem spec_both (k : Nat) (a b c d : Int) : spec_LblBoth.f (k + 1) a b c d = some (bothV a b c d) := by
  simp only [spec_LblBoth.f, spec_LblBoth.j0, spec_ok, bothV, Option.bind_some]
  cases okB a b <;> cases okB c d <;> by_cases h : a < c <;> simp [h]
theorem impl_common (a b c d : Int) : impl_LblCommon.f a b c d = some (commonV a b c d) := by
  simp only [impl_LblCommon.f, impl_ok, impl_lblLesser_int.f, commonV, Option.bind_some]
  cases okB a b <;> cases okB c d <;> by_cases h : c < a <;> simp [h]
theorem spec_common (k : Nat) (a b c d : Int) : spec_LblCommon.f (k + 1) a b c d = some (commonV a b c d) := by
  simp only [spec_LblCommon.f, spec_LblCommon.j0, spec_ok, commonV, Option.bind_some]
  cases okB a b <;> cases okB c d <;> by_cases h : c < a <;> simp [h]
theorem bothV_ok {a b c d : Int} (h1 : okB a b = true) (h2 : okB c d = true) : bothV a b c d = (if a < c then c else a, O b d) := if_pos ⟨h1, h2⟩
theorem commonV_ok {a b c d : Int} (h1 : okB a b = true) (h2 : okB c d = true) : commonV a b c d = (if c < a then c else a, A b d) := if_pos ⟨h1, h2⟩
theorem ok_both {a b c d : Int} (h1 : okB a b = true) (h2 : okB c d = true) : okB (if a < c then c else a) (O b d) = true := by
  obtain ⟨p, q, r, s⟩ := ok_iff.1 h1
  obtain ⟨p', q', r', s'⟩ := ok_iff.1 h2
  have := or_rng r s r' s'
  refine ok_iff.2 ⟨?_, ?_, this.1, this.2⟩ <;> split <;> omega
theorem ok_common {a b c d : Int} (h1 : okB a b = true) (h2 : okB c d = true) : okB (if c < a then c else a) (A b d) = true := by
  obtain ⟨p, q, r, s⟩ := ok_iff.1 h1
  obtain ⟨p', q', r', s'⟩ := ok_iff.1 h2
  have := and_rng r s r' s'
  refine ok_iff.2 ⟨?_, ?_, this.1, this.2⟩ <;> split <;> omega

theorem flows_iff {a b c d : Int} : flowsB a b c d = true ↔ okB a b = true ∧ okB c d = true ∧ a ≤ c ∧ O b d = d := by simp [flowsB]
theorem flows_self (a b : Int) : flowsB a b a b = okB a b := by
  rw [Bool.eq_iff_iff, flows_iff]
  constructor
  · exact fun h => h.1
  · intro h
    obtain ⟨_, _, r, s⟩ := ok_iff.1 h
    exact ⟨h, h, Int.le_refl _, or_self r s⟩
theorem flows_anti {a b c d : Int} (h : flowsB a b c d = true) (h' : flowsB c d a b = true) : a = c ∧ b = d := by
  obtain ⟨h1, h2, h3, h4⟩ := flows_iff.1 h
  obtain ⟨_, _, h5, h6⟩ := flows_iff.1 h'
  obtain ⟨_, _, r, s⟩ := ok_iff.1 h1
  obtain ⟨_, _, r', s'⟩ := ok_iff.1 h2
  exact ⟨by omega, by rw [← h6, or_comm r' s' r s, h4]⟩
theorem flows_trans {a b c d e f : Int} (h : flowsB a b c d = true) (h' : flowsB c d e f = true) : flowsB a b e f = true := by
  obtain ⟨h1, h2, h3, h4⟩ := flows_iff.1 h
  obtain ⟨_, g2, g3, g4⟩ := flows_iff.1 h'
  obtain ⟨_, _, r, s⟩ := ok_iff.1 h1
  obtain ⟨_, _, r', s'⟩ := ok_iff.1 h2
  obtain ⟨_, _, r'', s''⟩ := ok_iff.1 g2
  exact flows_iff.2 ⟨h1, g2, by omega, by rw [← g4, ← or_assoc r s r' s' r'' s'', h4]⟩
end Go.Proofs.Ytffbdnnmpopieaa.YLblL
