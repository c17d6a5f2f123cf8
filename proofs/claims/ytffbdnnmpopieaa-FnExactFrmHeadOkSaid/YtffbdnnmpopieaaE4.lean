-- Text written for this claim by the session's program wip/xprint.py over the kit's print. Not trusted: the checker reads it.
import Derived.Test.YtffbdnnmpopieaaE0
import Derived.Outline
namespace Go.Proofs.Ytffbdnnmpopieaa.E
open Go.RowKit Go.Proofs.YtffbdnnmpopieaaW.PrintWords Go.Proofs.YtffbdnnmpopieaaW.PrintLast Go.Proofs.YtffbdnnmpopieaaW.PrintMore
attribute [local go_sem] max2_int min2_int max_two min_two max_three min_three max_four min_four   -- for this text's walks alone
set_option linter.unusedVariables false
set_option linter.unusedSimpArgs false

/-! ### impl_FrmHeadOk: function 27 -/
def impl_FrmHeadOk.okC (b e h : Int) : Bool := decide (0 ≤ b ∧ b ≤ 3 ∧ 1 ≤ e ∧ e ≤ 65535 ∧ 0 ≤ h ∧ h ≤ 65535)
def impl_FrmHeadOk.fl1 (c d f g : Int) : Bool := decide (c = 255 ∧ d = 255 ∧ f = 0 ∧ g = 0)
def impl_FrmHeadOk.fl2 (b c d f g : Int) : Bool := decide (0 ≤ c ∧ c ≤ 3 ∧ c ≠ b ∧ 0 ≤ d ∧ d ≤ 9 ∧ 0 ≤ f ∧ f ≤ 65535 ∧ 0 ≤ g ∧ g ≤ 255)
def impl_FrmHeadOk.okB (a b c d e f g h : Int) : Bool := if a = 1 then impl_FrmHeadOk.okC b e h && impl_FrmHeadOk.fl1 c d f g else if a = 2 then impl_FrmHeadOk.okC b e h && impl_FrmHeadOk.fl2 b c d f g else false
def impl_FrmHeadOk.f (a0_0 a0_1 a0_2 a0_3 a0_4 a0_5 a0_6 a0_7 : Int) : Option Bool := some (impl_FrmHeadOk.okB a0_0 a0_1 a0_2 a0_3 a0_4 a0_5 a0_6 a0_7)
abbrev impl_FrmHeadOk.HC (a b c d e f g h : Int) : Array Value := #[.int .i64 a, .int .i64 b, .int .i64 c, .int .i64 d, .int .i64 e, .int .i64 f, .int .i64 g, .int .i64 h]
abbrev impl_FrmHeadOk.KC (b c d e f g h : Int) : Array Value := #[.int .i64 b, .int .i64 e, .int .i64 h, .int .i64 c, .int .i64 d, .int .i64 f, .int .i64 g]
theorem impl_FrmHeadOk.ret_b {a b : Bool} (h : a = b) : Ending.returned (.bool a) = .returned (.bool b) := by rw [h]
set_option maxHeartbeats 1000000 in
set_option maxRecDepth 100000 in
theorem impl_FrmHeadOk.common (w : World) (b e h : Int) :
    Calls Try.prog 82 #[.agg #[.int .i64 b, .int .i64 e, .int .i64 h]] w fun e_ w' => e_ = .returned (.bool (impl_FrmHeadOk.okC b e h)) ∧ w.alloc (.cells #[.int .i64 b, .int .i64 e, .int .i64 h] 83) = w' := by
  go_enter Try.func82, Try.ntmps82
  go_wp2
  all_goals go_ret
  all_goals refine ⟨impl_FrmHeadOk.ret_b ?_, rfl⟩
  all_goals (rw [Bool.eq_iff_iff]; simp [impl_FrmHeadOk.okC]; omega)
set_option maxHeartbeats 1000000 in
set_option maxRecDepth 100000 in
theorem impl_FrmHeadOk.kind1 (w : World) (b c d e f g h : Int) :
    Calls Try.prog 52 #[.agg (impl_FrmHeadOk.HC 1 b c d e f g h)] w fun e_ w' => e_ = .returned (.iface 85 (.agg (impl_FrmHeadOk.KC b c d e f g h))) ∧ (w.alloc (.cells (impl_FrmHeadOk.HC 1 b c d e f g h) 38)).alloc (.cells #[.int .i64 b, .int .i64 e, .int .i64 h] 83) = w' := by
  go_enter Try.func52, Try.ntmps52
  go_wp2
  go_ret
  exact ⟨rfl, rfl⟩
set_option maxHeartbeats 1000000 in
set_option maxRecDepth 100000 in
theorem impl_FrmHeadOk.kind2 (w : World) (b c d e f g h : Int) :
    Calls Try.prog 52 #[.agg (impl_FrmHeadOk.HC 2 b c d e f g h)] w fun e_ w' => e_ = .returned (.iface 86 (.agg (impl_FrmHeadOk.KC b c d e f g h))) ∧ (w.alloc (.cells (impl_FrmHeadOk.HC 2 b c d e f g h) 38)).alloc (.cells #[.int .i64 b, .int .i64 e, .int .i64 h] 83) = w' := by
  go_enter Try.func52, Try.ntmps52
  go_wp2
  go_ret
  exact ⟨rfl, rfl⟩
set_option maxHeartbeats 1000000 in
set_option maxRecDepth 100000 in
theorem impl_FrmHeadOk.kind0 (w : World) (a b c d e f g h : Int) (h1 : (a == 1) = false) (h2 : (a == 2) = false) :
    Calls Try.prog 52 #[.agg (impl_FrmHeadOk.HC a b c d e f g h)] w fun e_ w' => e_ = .returned .nilIface ∧ (w.alloc (.cells (impl_FrmHeadOk.HC a b c d e f g h) 38)).alloc (.cells #[.int .i64 b, .int .i64 e, .int .i64 h] 83) = w' := by
  go_enter Try.func52, Try.ntmps52
  go_wp2
  go_ret
  exact ⟨rfl, rfl⟩
theorem impl_FrmHeadOk.ta1 (v : Value) (W : World) : (Instr.typeAssert (.iface 85 v) 65 85 true).run Try.prog W = .ok (.tuple #[v, .bool true]) W := by kernel_rfl
theorem impl_FrmHeadOk.ta2 (v : Value) (W : World) : (Instr.typeAssert (.iface 86 v) 65 86 true).run Try.prog W = .ok (.tuple #[v, .bool true]) W := by kernel_rfl
theorem impl_FrmHeadOk.ta3 (v : Value) (W : World) : (Instr.typeAssert (.iface 86 v) 65 85 true).run Try.prog W = .ok (.tuple #[.agg (impl_FrmHeadOk.KC 0 0 0 0 0 0 0), .bool false]) W := by kernel_rfl
set_option maxHeartbeats 1000000 in
set_option maxRecDepth 100000 in
theorem impl_FrmHeadOk.fields1 (w : World) (b c d e f g h : Int) :
    Calls Try.prog 53 #[.iface 85 (.agg (impl_FrmHeadOk.KC b c d e f g h))] w fun e_ w' => e_ = .returned (.bool (impl_FrmHeadOk.fl1 c d f g)) ∧ Below w.heap.size w w' := by
  have hta := impl_FrmHeadOk.ta1
  go_enter Try.func53, Try.ntmps53
  go_wp2
  all_goals go_ret
  all_goals refine ⟨impl_FrmHeadOk.ret_b ?_, by repeat (first | exact Below.refl _ _ | apply pw_below_drewN | apply below_alloc)⟩
  all_goals (rw [Bool.eq_iff_iff]; simp [impl_FrmHeadOk.fl1]; omega)
set_option maxHeartbeats 1000000 in
set_option maxRecDepth 100000 in
theorem impl_FrmHeadOk.fields2 (w : World) (b c d e f g h : Int) :
    Calls Try.prog 53 #[.iface 86 (.agg (impl_FrmHeadOk.KC b c d e f g h))] w fun e_ w' => e_ = .returned (.bool (impl_FrmHeadOk.fl2 b c d f g)) ∧ Below w.heap.size w w' := by
  have hta2 := impl_FrmHeadOk.ta2
  have hta3 := impl_FrmHeadOk.ta3
  go_enter Try.func53, Try.ntmps53
  go_wp2
  all_goals go_ret
  all_goals refine ⟨impl_FrmHeadOk.ret_b ?_, by repeat (first | exact Below.refl _ _ | apply pw_below_drewN | apply below_alloc)⟩
  all_goals (rw [Bool.eq_iff_iff]; simp [impl_FrmHeadOk.fl2]; omega)
theorem impl_FrmHeadOk.m1 (b c d e f g h : Int) (W : World) : (method 211 85 (.agg (impl_FrmHeadOk.KC b c d e f g h)) "loop.example/casemate/impl.ok").run Try.prog W = .ok (82, .agg #[.int .i64 b, .int .i64 e, .int .i64 h]) W := by kernel_rfl
theorem impl_FrmHeadOk.m2 (b c d e f g h : Int) (W : World) : (method 211 86 (.agg (impl_FrmHeadOk.KC b c d e f g h)) "loop.example/casemate/impl.ok").run Try.prog W = .ok (82, .agg #[.int .i64 b, .int .i64 e, .int .i64 h]) W := by kernel_rfl
set_option maxHeartbeats 1000000 in
set_option maxRecDepth 100000 in
theorem impl_FrmHeadOk.c1 (w : World) (b c d e f g h : Int) :
    Calls Try.prog 27 #[.agg (impl_FrmHeadOk.HC 1 b c d e f g h)] w fun e_ w' => e_ = .returned (.bool (impl_FrmHeadOk.okC b e h && impl_FrmHeadOk.fl1 c d f g)) ∧ Below w.heap.size w w' := by
  have hm := impl_FrmHeadOk.m1
  have HB := Aside0.mk (Below.refl w.heap.size w)
  cases ho : impl_FrmHeadOk.okC b e h
  · have HO := Aside0.mk ho
    clear ho
    go_enter Try.func27, Try.ntmps27
    go_wp2_with (first | (go_at_call 52; refine (impl_FrmHeadOk.kind1 _ _ _ _ _ _ _ _).mono ?_; rintro e_ w' ⟨rfl, rfl⟩) | (go_at_call 82; refine (impl_FrmHeadOk.common _ _ _ _).mono ?_; rintro e_ w' ⟨rfl, rfl⟩; rw [HO.out]) | (go_at_call 53; refine (impl_FrmHeadOk.fields1 _ _ _ _ _ _ _ _).mono ?_; rintro e_ w' ⟨rfl, hb⟩))
    go_ret
    exact ⟨impl_FrmHeadOk.ret_b (by simp), hb_⟩
  · have HO := Aside0.mk ho
    clear ho
    go_enter Try.func27, Try.ntmps27
    go_wp2_with (first | (go_at_call 52; refine (impl_FrmHeadOk.kind1 _ _ _ _ _ _ _ _).mono ?_; rintro e_ w' ⟨rfl, rfl⟩) | (go_at_call 82; refine (impl_FrmHeadOk.common _ _ _ _).mono ?_; rintro e_ w' ⟨rfl, rfl⟩; rw [HO.out]) | (go_at_call 53; refine (impl_FrmHeadOk.fields1 _ _ _ _ _ _ _ _).mono ?_; rintro e_ w' ⟨rfl, hb⟩))
    go_ret
    exact ⟨impl_FrmHeadOk.ret_b (by simp), below_step hb_ hb⟩
set_option maxHeartbeats 1000000 in
set_option maxRecDepth 100000 in
theorem impl_FrmHeadOk.c2 (w : World) (b c d e f g h : Int) :
    Calls Try.prog 27 #[.agg (impl_FrmHeadOk.HC 2 b c d e f g h)] w fun e_ w' => e_ = .returned (.bool (impl_FrmHeadOk.okC b e h && impl_FrmHeadOk.fl2 b c d f g)) ∧ Below w.heap.size w w' := by
  have hm := impl_FrmHeadOk.m2
  have HB := Aside0.mk (Below.refl w.heap.size w)
  cases ho : impl_FrmHeadOk.okC b e h
  · have HO := Aside0.mk ho
    clear ho
    go_enter Try.func27, Try.ntmps27
    go_wp2_with (first | (go_at_call 52; refine (impl_FrmHeadOk.kind2 _ _ _ _ _ _ _ _).mono ?_; rintro e_ w' ⟨rfl, rfl⟩) | (go_at_call 82; refine (impl_FrmHeadOk.common _ _ _ _).mono ?_; rintro e_ w' ⟨rfl, rfl⟩; rw [HO.out]) | (go_at_call 53; refine (impl_FrmHeadOk.fields2 _ _ _ _ _ _ _ _).mono ?_; rintro e_ w' ⟨rfl, hb⟩))
    go_ret
    exact ⟨impl_FrmHeadOk.ret_b (by simp), hb_⟩
  · have HO := Aside0.mk ho
    clear ho
    go_enter Try.func27, Try.ntmps27
    go_wp2_with (first | (go_at_call 52; refine (impl_FrmHeadOk.kind2 _ _ _ _ _ _ _ _).mono ?_; rintro e_ w' ⟨rfl, rfl⟩) | (go_at_call 82; refine (impl_FrmHeadOk.common _ _ _ _).mono ?_; rintro e_ w' ⟨rfl, rfl⟩; rw [HO.out]) | (go_at_call 53; refine (impl_FrmHeadOk.fields2 _ _ _ _ _ _ _ _).mono ?_; rintro e_ w' ⟨rfl, hb⟩))
    go_ret
    exact ⟨impl_FrmHeadOk.ret_b (by simp), below_step hb_ hb⟩
set_option maxHeartbeats 1000000 in
set_option maxRecDepth 100000 in
theorem impl_FrmHeadOk.c0 (w : World) (a b c d e f g h : Int) (h1 : (a == 1) = false) (h2 : (a == 2) = false) :
    Calls Try.prog 27 #[.agg (impl_FrmHeadOk.HC a b c d e f g h)] w fun e_ w' => e_ = .returned (.bool false) ∧ Below w.heap.size w w' := by
  have H1 := Aside0.mk h1
  have H2 := Aside0.mk h2
  clear h1 h2
  go_enter Try.func27, Try.ntmps27
  go_wp2_with (go_at_call 52; refine (impl_FrmHeadOk.kind0 _ _ _ _ _ _ _ _ _ H1.out H2.out).mono ?_; rintro e_ w' ⟨rfl, rfl⟩)
  go_ret
  exact ⟨rfl, by repeat (first | exact Below.refl _ _ | apply pw_below_drewN | apply below_alloc)⟩
theorem impl_FrmHeadOk.calls (a0_0 a0_1 a0_2 a0_3 a0_4 a0_5 a0_6 a0_7 : Int) (r : Bool) (w : World) (h : impl_FrmHeadOk.f a0_0 a0_1 a0_2 a0_3 a0_4 a0_5 a0_6 a0_7 = some r) :
    Calls Try.prog 27 #[.agg #[.int .i64 a0_0, .int .i64 a0_1, .int .i64 a0_2, .int .i64 a0_3, .int .i64 a0_4, .int .i64 a0_5, .int .i64 a0_6, .int .i64 a0_7]] w fun e w' => e = .returned (.bool r) ∧ Below w.heap.size w w' := by
  obtain rfl := Option.some.inj h
  unfold impl_FrmHeadOk.okB
  by_cases h1 : a0_0 = 1
  · subst h1; rw [if_pos rfl]; exact impl_FrmHeadOk.c1 w _ _ _ _ _ _ _
  · rw [if_neg h1]
    by_cases h2 : a0_0 = 2
    · subst h2; rw [if_pos rfl]; exact impl_FrmHeadOk.c2 w _ _ _ _ _ _ _
    · rw [if_neg h2]; exact impl_FrmHeadOk.c0 w _ _ _ _ _ _ _ _ (by simpa using h1) (by simpa using h2)


end Go.Proofs.Ytffbdnnmpopieaa.E
