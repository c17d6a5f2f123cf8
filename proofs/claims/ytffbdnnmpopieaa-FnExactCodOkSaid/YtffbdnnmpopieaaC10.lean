-- Text written for this claim by the session's program wip/xprint.py over the kit's print. Not trusted: the checker reads it.
import Derived.Test.YtffbdnnmpopieaaC0
import Derived.Test.YtffbdnnmpopieaaC9
namespace Go.Proofs.Ytffbdnnmpopieaa.C
open Go.RowKit Go.Proofs.YtffbdnnmpopieaaW.PrintWords Go.Proofs.YtffbdnnmpopieaaW.PrintLast Go.Proofs.YtffbdnnmpopieaaW.PrintMore
attribute [local go_sem] max2_int min2_int max_two min_two max_three min_three max_four min_four   -- for this text's walks alone
set_option linter.unusedVariables false
set_option linter.unusedSimpArgs false

/-! ### impl_codOp_kinds: function 65 -/
def impl_codOp_kinds.tab (a0 : Int) : ByteArray :=
  if a0 = 1 then ⟨#[114, 118]⟩ else if a0 = 5 then ⟨#[114, 114, 114]⟩ else if a0 = 8 then ⟨#[112, 114]⟩ else if a0 = 9 then ⟨#[119, 114, 114]⟩
  else if a0 = 10 then ⟨#[119, 114, 114]⟩ else if a0 = 12 then ⟨#[114]⟩ else if a0 = 13 then ⟨#[]⟩ else if a0 = 14 then ⟨#[]⟩ else ⟨#[114, 114]⟩
def impl_codOp_kinds.f (a0 : Int) : Option ByteArray := if 1 ≤ a0 ∧ a0 ≤ 14 then some (impl_codOp_kinds.tab a0) else some ⟨#[]⟩
theorem impl_codOp_kinds.ix (a0 : Int) (hc : a0 = 1 ∨ a0 = 2 ∨ a0 = 3 ∨ a0 = 4 ∨ a0 = 5 ∨ a0 = 6 ∨ a0 = 7 ∨ a0 = 8 ∨ a0 = 9 ∨ a0 = 10 ∨ a0 = 11 ∨ a0 = 12 ∨ a0 = 13 ∨ a0 = 14) (w : World) :
    (Instr.index 94 (.agg #[.string ⟨#[]⟩, .string ⟨#[114, 118]⟩, .string ⟨#[114, 114]⟩, .string ⟨#[114, 114]⟩, .string ⟨#[114, 114]⟩, .string ⟨#[114, 114, 114]⟩, .string ⟨#[114, 114]⟩, .string ⟨#[114, 114]⟩, .string ⟨#[112, 114]⟩, .string ⟨#[119, 114, 114]⟩, .string ⟨#[119, 114, 114]⟩, .string ⟨#[114, 114]⟩, .string ⟨#[114]⟩, .string ⟨#[]⟩, .string ⟨#[]⟩]) (.int .i64 a0)).run Try.prog w = .ok (.string (impl_codOp_kinds.tab a0)) w := by
  rcases hc with rfl | rfl | rfl | rfl | rfl | rfl | rfl | rfl | rfl | rfl | rfl | rfl | rfl | rfl <;> kernel_rfl
set_option maxHeartbeats 4000000 in
set_option maxRecDepth 100000 in
theorem impl_codOp_kinds.calls (a0 : Int) (r : ByteArray) (w : World) (h : impl_codOp_kinds.f a0 = some r) :
    Calls Try.prog 65 #[.int .i64 a0] w fun e w' => e = .returned (.string r) ∧ Drawn0 w w' := by
  unfold impl_codOp_kinds.f at h
  by_cases hk : 1 ≤ a0 ∧ a0 ≤ 14
  · rw [if_pos hk] at h
    have hok : impl_codOp_ok.f a0 = some true := by
      unfold impl_codOp_ok.f; rw [if_pos (by omega)]; simp; omega
    have A := Aside0.mk hok
    have hix := impl_codOp_kinds.ix a0 (by omega)
    obtain rfl := Option.some.inj h
    clear hok hk h
    go_enter Try.func65, Try.ntmps65
    go_wp2_with (go_at_call 64; (with_reducible refine (impl_codOp_ok.calls _ _ _ A.out).mono ?_); rintro e w' ⟨rfl, ⟨nd, rfl⟩⟩)
    go_ret
    exact ⟨by rfl, by repeat (first | exact Drawn0.refl _ | apply Drawn0.step)⟩
  · rw [if_neg hk] at h
    have hok : impl_codOp_ok.f a0 = some false := by
      unfold impl_codOp_ok.f
      by_cases g : a0 ≥ 1
      · rw [if_pos g]; simp; omega
      · rw [if_neg g]
    have A := Aside0.mk hok
    clear hok
    obtain rfl := Option.some.inj h
    clear h hk
    go_enter Try.func65, Try.ntmps65
    go_wp2_with (go_at_call 64; (with_reducible refine (impl_codOp_ok.calls _ _ _ A.out).mono ?_); rintro e w' ⟨rfl, ⟨nd, rfl⟩⟩)
    go_ret
    exact ⟨by rfl, by repeat (first | exact Drawn0.refl _ | apply Drawn0.step)⟩


end Go.Proofs.Ytffbdnnmpopieaa.C
