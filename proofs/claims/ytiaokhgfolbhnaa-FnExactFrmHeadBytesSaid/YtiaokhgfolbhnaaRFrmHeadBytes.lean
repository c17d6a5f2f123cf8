/- The row of FnExactFrmHeadBytes: for every input the law returns true, each argument reads behind the call as it read before. -/
import Derived.Test.YtiaokhgfolbhnaaRows
import Derived.Test.YtiaokhgfolbhnaaCFrmL
import Derived.Test.YtiaokhgfolbhnaaAvZ
import Derived.WalkKit
import Derived.ProofKit
import Derived.OpenShut
import Derived.ShutString
import Derived.ChangeOld
import Derived.Below
import Derived.SizedLaws
namespace Go.Proofs.Ytiaokhgfolbhnaa.fnExactFrmHeadBytes
open Go Go.Av Go.ChangeShapes Go.WideShapes Go.ChangeAt Go.RowKit
open Go.ChangeMaps (open_string shut_string)
set_option linter.unusedVariables false
theorem own : ownKnob Try.prog.godebug = none := by kernel_rfl
theorem laidOut : laidOutB Try.prog = true := by kernel_rfl
set_option maxRecDepth 100000 in
theorem lifted (os : Os) (started : os.Started) (H : Type) (enc : TypeId × Value → H) :
    ReturnsInHanded {} Try.checked os 3 .any (Rows.fnExactFrmHeadBytesSpec.pre6 enc Try.prog Try.f3 Rows.fnExactFrmHeadBytesRow.domain false) (Rows.fnExactFrmHeadBytesSpec.post enc Try.prog Try.f3 false true false false) := by
  refine returnsInHanded_of_change_sized (C := Try.checked) own started (by kernel_rfl) Try.func3
    (ChangeSpec.witness6 (enc := enc) (C := Try.checked) false ⟨#[], #[.agg #[.int .i64 0, .int .i64 0, .int .i64 0, .int .i64 0, .int .i64 0, .int .i64 0, .int .i64 0, .int .i64 0]], []⟩ 8 (by kernel_rfl) (by kernel_rfl) (by kernel_rfl) (by kernel_rfl)) ?_
  intro W base args ds gs before hval0 hW hcnd hsz0 _
  have hval : ∀ (j : Nat) t v, Try.f3.params[j]? = some t → args[j]? = some v → Value.okWide Try.prog W .any base t v := hval0
  have hW' := hW
  obtain ⟨p, q, hA0, hV, rfl, hfz, hnd⟩ := hW
  have hA : DataW.TrodAll enc Try.prog W 0 (fun _ => true) true Try.f3.params.toList args.toList ds p := hA0
  rw [Try.params3] at hA hval
  obtain ⟨v0, vs0, d0, ds0, p0, q0, hargs, rfl, rfl, h0, r0⟩ := trodAll_cons hA
  obtain ⟨rfl, rfl, rfl⟩ := trodAll_nil r0
  obtain rfl : args = #[v0] := by cases args; simp_all
  obtain ⟨rfl, rfl⟩ := trodVars_none hV
  have k0 := h0
  have lt0 : ∀ x ∈ p0, x.block < W.heap.size := by obtain ⟨m, hm⟩ := k0; exact DataW.trod_lt m _ _ _ hm
  obtain ⟨cs0, rfl, hcs0⟩ := okWide_struct Try.underlying23 (hval 0 23 v0 rfl rfl)
  have w0 : ∀ n ∈ d0.weights Try.prog 23, n ≤ lim := fun n hn => Nat.le_trans (of_decide_eq_true (List.all_eq_true.1 hsz0 n (DataW.weights_mem_each (j := 0) (t := 23) rfl rfl n hn))) (by decide)
  obtain ⟨fu0, hf0⟩ := h0
  obtain ⟨y0, hy0, ho0, hp0⟩ := (opens_struct (n := 8) Try.underlying23 (by kernel_rfl) (OpensF.cons (j := 0) (off := 0) (k := 1) (t := 3) (by kernel_rfl) (by kernel_rfl) (opens_int Try.underlying3) (OpensF.cons (j := 1) (off := 1) (k := 1) (t := 3) (by kernel_rfl) (by kernel_rfl) (opens_int Try.underlying3) (OpensF.cons (j := 2) (off := 2) (k := 1) (t := 3) (by kernel_rfl) (by kernel_rfl) (opens_int Try.underlying3) (OpensF.cons (j := 3) (off := 3) (k := 1) (t := 3) (by kernel_rfl) (by kernel_rfl) (opens_int Try.underlying3) (OpensF.cons (j := 4) (off := 4) (k := 1) (t := 3) (by kernel_rfl) (by kernel_rfl) (opens_int Try.underlying3) (OpensF.cons (j := 5) (off := 5) (k := 1) (t := 3) (by kernel_rfl) (by kernel_rfl) (opens_int Try.underlying3) (OpensF.cons (j := 6) (off := 6) (k := 1) (t := 3) (by kernel_rfl) (by kernel_rfl) (opens_int Try.underlying3) (OpensF.cons (j := 7) (off := 7) (k := 1) (t := 3) (by kernel_rfl) (by kernel_rfl) (opens_int Try.underlying3) (OpensF.nil (by decide))))))))))) H enc W fu0 _ _ hf0 w0
  have gx : Gx Try.prog W := ⟨fun g hg => by rw [show Try.prog.globalNamed "errors.errorType" = none by kernel_rfl] at hg; cases hg⟩
  have hz : Try.prog.globals.size ≤ W.heap.size := by rw [show Try.prog.globals.size = 0 by kernel_rfl]; exact Nat.zero_le _
  clear hA0 hval0
  refine (calls_row (C.lawHB rfl y0.1 y0.2.1 y0.2.2.1 y0.2.2.2.1 y0.2.2.2.2.1 y0.2.2.2.2.2.1 y0.2.2.2.2.2.2.1 y0.2.2.2.2.2.2.2.1).call hz gx (vs := [.agg cs0]) (RepL.join1 (rep_struct hy0) ⟨rfl, fun _ => rfl⟩)).mono fun e W' ⟨he, bel⟩ => ?_
  subst he
  exact ⟨_, rfl, _, _, _, [], _, [], hW', trodAll_mk1 (shut_bool Try.underlying4 _), (trodAll_cons_mk (Below.trod laidOut (by kernel_rfl) (of_decide_eq_true (by kernel_rfl)) k0 bel lt0) trodAll_mk0), rfl, bel.frame _, fun h => by cases h⟩
theorem over : Rows.fnExactFrmHeadBytesRow.holds Try.pinned (OpenSpec.ofChange Rows.fnExactFrmHeadBytesSpec) :=
  OpenClaim.holds_of_wide 3 Try.f3 rfl rfl rfl rfl rfl rfl rfl ⟨rfl, rfl, rfl, rfl, rfl⟩ rfl rfl rfl rfl rfl (by kernel_rfl) Try.func3 (by kernel_rfl)
    (of_decide_eq_true (by kernel_rfl)) (by unfold Func.isWrapper; first | (rw [if_pos (by decide +kernel)]; kernel_rfl) | (rw [if_neg (by decide +kernel)]; exact ⟨rfl, rfl⟩))
    (fun os started H enc _ => lifted os started H enc)
theorem proved : Rows.FnExactFrmHeadBytesSaid := over
end Go.Proofs.Ytiaokhgfolbhnaa.fnExactFrmHeadBytes
namespace Go.Proofs.Ytiaokhgfolbhnaa
/-- The row, under a short name, for the claim. -/
theorem fnExactFrmHeadBytes_holds : Rows.FnExactFrmHeadBytesSaid := fnExactFrmHeadBytes.proved
#print axioms fnExactFrmHeadBytes_holds
end Go.Proofs.Ytiaokhgfolbhnaa
