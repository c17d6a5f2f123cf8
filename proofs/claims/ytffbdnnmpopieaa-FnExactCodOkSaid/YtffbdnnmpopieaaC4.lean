-- Text written for this claim by the session's program wip/xprint.py over the kit's print. Not trusted: the checker reads it.
import Derived.Test.YtffbdnnmpopieaaC0
import Derived.Test.YtffbdnnmpopieaaC3
namespace Go.Proofs.Ytffbdnnmpopieaa.C
open Go.RowKit Go.Proofs.YtffbdnnmpopieaaW.PrintWords Go.Proofs.YtffbdnnmpopieaaW.PrintLast Go.Proofs.YtffbdnnmpopieaaW.PrintMore
attribute [local go_sem] max2_int min2_int max_two min_two max_three min_three max_four min_four   -- for this text's walks alone
set_option linter.unusedVariables false
set_option linter.unusedSimpArgs false

/-! ### spec_l5Fits: function 63 -/
def spec_l5Fits.f (a0 : Int) (a1 : Int) : Option (Bool) := if a0 = 114 then ((spec_l1In.f a1 0 3).bind fun t101 => (some t101)) else (if a0 = 118 then ((spec_l1In.f a1 0 255).bind fun t102 => (some t102)) else (if a0 = 112 then ((spec_l1In.f a1 0 24).bind fun t103 => (some t103)) else (if a0 = 119 then ((spec_l1In.f a1 0 9).bind fun t104 => (some t104)) else (some (a1 == 0)))))
set_option maxHeartbeats 8000000 in
set_option maxRecDepth 100000 in
theorem spec_l5Fits.calls (a0 : Int) (a1 : Int) (r : Bool) (w : World) (h : spec_l5Fits.f a0 a1 = some r) :
    Calls Try.prog 63 #[.int .u8 a0, .int .i64 a1] w fun e w' => e = .returned (.bool r) ∧ Drawn0 w w' := by
  have H : (if a0 = 114 then ((spec_l1In.f a1 0 3).bind fun t101 => (some t101)) else (if a0 = 118 then ((spec_l1In.f a1 0 255).bind fun t102 => (some t102)) else (if a0 = 112 then ((spec_l1In.f a1 0 24).bind fun t103 => (some t103)) else (if a0 = 119 then ((spec_l1In.f a1 0 9).bind fun t104 => (some t104)) else (some (a1 == 0)))))) = some r := h
  clear h
  by_cases c3 : a0 = 114
  · rw [if_pos c3] at H
    have c3b0 : (a0 == 114) = true := beq_iff_eq.mpr c3
    have c3b1 : (a0 != 114) = false := bne_eq_false_iff_eq.mpr c3
    clear c3
    replace H := Option.bind_eq_some_iff.mp H
    obtain ⟨t101, A40, H⟩ := H
    replace H : (some t101) = some r := H
    have A4 := Aside0.mk A40
    clear A40
    obtain rfl := Option.some.inj H
    go_enter Try.func63, Try.ntmps63
    go_wp2_with (first | ((with_reducible refine gate_callee (f := 43) rfl ?_); refine goesL_ (some 9) rfl rfl Try.func43 (by kernel_rfl) rfl #[.int .i64 a1, .int .i64 0, .int .i64 3] rfl ml_ ?_; (with_reducible refine (spec_l1In.calls a1 0 3 t101 _ A4.out).mono ?_); rintro e w' ⟨rfl, ⟨nd, rfl⟩⟩; refine ⟨_, rfl, ?_⟩))
    go_ret
    exact ⟨by first | rfl | (simp; done) | (simp [*]; done), by repeat (first | exact Drawn0.refl _ | apply Drawn0.step)⟩
  · rw [if_neg c3] at H
    have c3b0 : (a0 == 114) = false := beq_eq_false_iff_ne.mpr c3
    have c3b1 : (a0 != 114) = true := bne_iff_ne.mpr c3
    by_cases c5 : a0 = 118
    · rw [if_pos c5] at H
      have c5b0 : (a0 == 118) = true := beq_iff_eq.mpr c5
      have c5b1 : (a0 != 118) = false := bne_eq_false_iff_eq.mpr c5
      clear c5
      replace H := Option.bind_eq_some_iff.mp H
      obtain ⟨t102, A60, H⟩ := H
      replace H : (some t102) = some r := H
      have A6 := Aside0.mk A60
      clear A60
      obtain rfl := Option.some.inj H
      go_enter Try.func63, Try.ntmps63
      go_wp2_with (first | ((with_reducible refine gate_callee (f := 43) rfl ?_); refine goesL_ (some 13) rfl rfl Try.func43 (by kernel_rfl) rfl #[.int .i64 a1, .int .i64 0, .int .i64 255] rfl ml_ ?_; (with_reducible refine (spec_l1In.calls a1 0 255 t102 _ A6.out).mono ?_); rintro e w' ⟨rfl, ⟨nd, rfl⟩⟩; refine ⟨_, rfl, ?_⟩))
      go_ret
      exact ⟨by first | rfl | (simp; done) | (simp [*]; done), by repeat (first | exact Drawn0.refl _ | apply Drawn0.step)⟩
    · rw [if_neg c5] at H
      have c5b0 : (a0 == 118) = false := beq_eq_false_iff_ne.mpr c5
      have c5b1 : (a0 != 118) = true := bne_iff_ne.mpr c5
      by_cases c7 : a0 = 112
      · rw [if_pos c7] at H
        have c7b0 : (a0 == 112) = true := beq_iff_eq.mpr c7
        have c7b1 : (a0 != 112) = false := bne_eq_false_iff_eq.mpr c7
        clear c7
        replace H := Option.bind_eq_some_iff.mp H
        obtain ⟨t103, A80, H⟩ := H
        replace H : (some t103) = some r := H
        have A8 := Aside0.mk A80
        clear A80
        obtain rfl := Option.some.inj H
        go_enter Try.func63, Try.ntmps63
        go_wp2_with (first | ((with_reducible refine gate_callee (f := 43) rfl ?_); refine goesL_ (some 17) rfl rfl Try.func43 (by kernel_rfl) rfl #[.int .i64 a1, .int .i64 0, .int .i64 24] rfl ml_ ?_; (with_reducible refine (spec_l1In.calls a1 0 24 t103 _ A8.out).mono ?_); rintro e w' ⟨rfl, ⟨nd, rfl⟩⟩; refine ⟨_, rfl, ?_⟩))
        go_ret
        exact ⟨by first | rfl | (simp; done) | (simp [*]; done), by repeat (first | exact Drawn0.refl _ | apply Drawn0.step)⟩
      · rw [if_neg c7] at H
        have c7b0 : (a0 == 112) = false := beq_eq_false_iff_ne.mpr c7
        have c7b1 : (a0 != 112) = true := bne_iff_ne.mpr c7
        by_cases c9 : a0 = 119
        · rw [if_pos c9] at H
          have c9b0 : (a0 == 119) = true := beq_iff_eq.mpr c9
          have c9b1 : (a0 != 119) = false := bne_eq_false_iff_eq.mpr c9
          clear c9
          replace H := Option.bind_eq_some_iff.mp H
          obtain ⟨t104, A100, H⟩ := H
          replace H : (some t104) = some r := H
          have A10 := Aside0.mk A100
          clear A100
          obtain rfl := Option.some.inj H
          go_enter Try.func63, Try.ntmps63
          go_wp2_with (first | ((with_reducible refine gate_callee (f := 43) rfl ?_); refine goesL_ (some 21) rfl rfl Try.func43 (by kernel_rfl) rfl #[.int .i64 a1, .int .i64 0, .int .i64 9] rfl ml_ ?_; (with_reducible refine (spec_l1In.calls a1 0 9 t104 _ A10.out).mono ?_); rintro e w' ⟨rfl, ⟨nd, rfl⟩⟩; refine ⟨_, rfl, ?_⟩))
          go_ret
          exact ⟨by first | rfl | (simp; done) | (simp [*]; done), by repeat (first | exact Drawn0.refl _ | apply Drawn0.step)⟩
        · rw [if_neg c9] at H
          have c9b0 : (a0 == 119) = false := beq_eq_false_iff_ne.mpr c9
          have c9b1 : (a0 != 119) = true := bne_iff_ne.mpr c9
          obtain rfl := Option.some.inj H
          go_enter Try.func63, Try.ntmps63
          go_wp2
          go_ret
          exact ⟨by first | rfl | (simp; done) | (simp [*]; done), by repeat (first | exact Drawn0.refl _ | apply Drawn0.step)⟩

end Go.Proofs.Ytffbdnnmpopieaa.C
