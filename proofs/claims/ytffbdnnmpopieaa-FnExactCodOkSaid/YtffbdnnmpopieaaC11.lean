-- Text written for this claim by the session's program wip/xprint.py over the kit's print. Not trusted: the checker reads it.
import Derived.Test.YtffbdnnmpopieaaC0
namespace Go.Proofs.Ytffbdnnmpopieaa.C
open Go.RowKit Go.Proofs.YtffbdnnmpopieaaW.PrintWords Go.Proofs.YtffbdnnmpopieaaW.PrintLast Go.Proofs.YtffbdnnmpopieaaW.PrintMore
attribute [local go_sem] max2_int min2_int max_two min_two max_three min_three max_four min_four   -- for this text's walks alone
set_option linter.unusedVariables false
set_option linter.unusedSimpArgs false

/-! ### impl_codMost: function 66 -/
def impl_codMost.f (a0 : Int) : Option (Int) := if a0 = 114 then (some 3) else (if a0 = 118 then (some 255) else (if a0 = 112 then (some 24) else (if a0 = 119 then (some 9) else (some 0))))
set_option maxHeartbeats 8000000 in
set_option maxRecDepth 100000 in
theorem impl_codMost.calls (a0 : Int) (r : Int) (w : World) (h : impl_codMost.f a0 = some r) :
    Calls Try.prog 66 #[.int .u8 a0] w fun e w' => e = .returned (.int .i64 r) ∧ Drawn0 w w' := by
  have H : (if a0 = 114 then (some 3) else (if a0 = 118 then (some 255) else (if a0 = 112 then (some 24) else (if a0 = 119 then (some 9) else (some 0))))) = some r := h
  clear h
  by_cases c2 : a0 = 114
  · rw [if_pos c2] at H
    have c2b0 : (a0 == 114) = true := beq_iff_eq.mpr c2
    have c2b1 : (a0 != 114) = false := bne_eq_false_iff_eq.mpr c2
    clear c2
    obtain rfl := Option.some.inj H
    go_enter Try.func66, Try.ntmps66
    go_wp2
    go_ret
    exact ⟨by first | rfl | (simp; done) | (simp [*]; done), by repeat (first | exact Drawn0.refl _ | apply Drawn0.step)⟩
  · rw [if_neg c2] at H
    have c2b0 : (a0 == 114) = false := beq_eq_false_iff_ne.mpr c2
    have c2b1 : (a0 != 114) = true := bne_iff_ne.mpr c2
    by_cases c3 : a0 = 118
    · rw [if_pos c3] at H
      have c3b0 : (a0 == 118) = true := beq_iff_eq.mpr c3
      have c3b1 : (a0 != 118) = false := bne_eq_false_iff_eq.mpr c3
      clear c3
      obtain rfl := Option.some.inj H
      go_enter Try.func66, Try.ntmps66
      go_wp2
      go_ret
      exact ⟨by first | rfl | (simp; done) | (simp [*]; done), by repeat (first | exact Drawn0.refl _ | apply Drawn0.step)⟩
    · rw [if_neg c3] at H
      have c3b0 : (a0 == 118) = false := beq_eq_false_iff_ne.mpr c3
      have c3b1 : (a0 != 118) = true := bne_iff_ne.mpr c3
      by_cases c4 : a0 = 112
      · rw [if_pos c4] at H
        have c4b0 : (a0 == 112) = true := beq_iff_eq.mpr c4
        have c4b1 : (a0 != 112) = false := bne_eq_false_iff_eq.mpr c4
        clear c4
        obtain rfl := Option.some.inj H
        go_enter Try.func66, Try.ntmps66
        go_wp2
        go_ret
        exact ⟨by first | rfl | (simp; done) | (simp [*]; done), by repeat (first | exact Drawn0.refl _ | apply Drawn0.step)⟩
      · rw [if_neg c4] at H
        have c4b0 : (a0 == 112) = false := beq_eq_false_iff_ne.mpr c4
        have c4b1 : (a0 != 112) = true := bne_iff_ne.mpr c4
        by_cases c5 : a0 = 119
        · rw [if_pos c5] at H
          have c5b0 : (a0 == 119) = true := beq_iff_eq.mpr c5
          have c5b1 : (a0 != 119) = false := bne_eq_false_iff_eq.mpr c5
          clear c5
          obtain rfl := Option.some.inj H
          go_enter Try.func66, Try.ntmps66
          go_wp2
          go_ret
          exact ⟨by first | rfl | (simp; done) | (simp [*]; done), by repeat (first | exact Drawn0.refl _ | apply Drawn0.step)⟩
        · rw [if_neg c5] at H
          have c5b0 : (a0 == 119) = false := beq_eq_false_iff_ne.mpr c5
          have c5b1 : (a0 != 119) = true := bne_iff_ne.mpr c5
          obtain rfl := Option.some.inj H
          go_enter Try.func66, Try.ntmps66
          go_wp2
          go_ret
          exact ⟨by first | rfl | (simp; done) | (simp [*]; done), by repeat (first | exact Drawn0.refl _ | apply Drawn0.step)⟩

end Go.Proofs.Ytffbdnnmpopieaa.C
