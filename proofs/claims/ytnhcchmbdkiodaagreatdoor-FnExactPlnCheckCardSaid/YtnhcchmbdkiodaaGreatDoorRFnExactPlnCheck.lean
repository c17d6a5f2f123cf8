/- The row of FnExactPlnCheck: for every input the law returns true, each argument reads behind the call as it read before. -/
import Derived.Test.YtnhcchmbdkiodaaGreatDoorRows
import Derived.Test.YtnhcchmbdkiodaaGreatDoorCPlnP
import Derived.Test.YtnhcchmbdkiodaaGreatDoorAvZ
import Derived.Test.YtnhcchmbdkiodaaGreatDoorAvT
import Derived.WalkKit
import Derived.ProofKit
import Derived.OpenShut
import Derived.ShutString
import Derived.ChangeOld
import Derived.Below
import Derived.SizedLaws
import Derived.ChangeVars
import Derived.JoinedOf
import Derived.RowKit
import Derived.RowKitTokens
import Derived.LaidLaws
import Derived.LaidMore
import Derived.LaidHandle
import Derived.Lay
import Derived.MakeChecks
import Derived.Stop.Joined
import Derived.SevenTiedAt
import Derived.Test.YtnhcchmbdkiodaaGreatDoorTie
import Derived.Test.YtnhcchmbdkiodaaGreatDoorCards
namespace Go.Proofs.YtnhcchmbdkiodaaGreatDoor.fnExactPlnCheck
open Go Go.Av Go.ChangeShapes Go.WideShapes Go.ChangeAt Go.RowKit
open Go.ChangeMaps (open_string shut_string)
set_option linter.unusedVariables false
theorem own : ownKnob Tryz.prog.godebug = none := by kernel_rfl
instance known : Known Tryz.prog := ⟨[(0, C.errCell)]⟩
theorem laidOut : laidOutB Tryz.prog = true := by kernel_rfl
/-- A world that meets the condition: the settled one, the variable's cell laid. -/
noncomputable def laidWorld (os : Os) : World :=
  let w0 := World.holding Tryz.prog os ⟨#[], #[], []⟩
  { w0 with heap := w0.heap.modify 0 fun
      | .cells _ t frozen => .cells #[.iface 143 (.agg #[typeHandle Tryz.prog 61])] t frozen
      | o => o }
set_option maxRecDepth 100000 in
theorem laidWorld_met (os : Os) (args : Array Value) : laidMetH Tryz.prog Rows.fnExactPlnCheckRow.laid ((laidWorld os).forCall (fun _ _ => 0) ⟨#[], args, []⟩).memory :=
  laidMetH_of_parts (laidMet_nil _ _) (by kernel_rfl)
set_option maxRecDepth 100000 in
theorem lifted (os : Os) (started : os.Started) (H : Type) (enc : TypeId × Value → H) :
    ReturnsInHanded {} Tryz.checked os 5 .any (fun w args => (Rows.fnExactPlnCheckSpec.pre enc Tryz.prog Tryz.f5 [] false w args ∧ laidMetH Tryz.prog Rows.fnExactPlnCheckRow.laid w) ∧ sizedMet enc Tryz.prog Tryz.f5 (OpenSpec.ofChange Rows.fnExactPlnCheckSpec) false w args) (Rows.fnExactPlnCheckSpec.post enc Tryz.prog Tryz.f5 false true false false) := by
  refine returnsInHanded_of_change_and (C := Tryz.checked) (X := fun w _ => laidMetH Tryz.prog Rows.fnExactPlnCheckRow.laid w) (fun _ _ _ hh h => h.of_heap hh) own started (by kernel_rfl) Tryz.func5
    (ChangeSpec.witness_at (enc := enc) (C := Tryz.checked) (os := os) (X := fun w _ => laidMetH Tryz.prog Rows.fnExactPlnCheckRow.laid w) false (laidWorld os) #[.agg #[.int .i64 0, .int .i64 0, .int .i64 0, .slice none 0 0, .slice none 0 0, .slice none 0 0, .slice none 0 0]] 8 rfl (by kernel_rfl) (by kernel_rfl) (by kernel_rfl) (by kernel_rfl) (by kernel_rfl) (laidWorld_met os _)) ?_
  intro W base args ds gs before hval0 hW hcnd hsz0 hL _
  have hval : ∀ (j : Nat) t v, Tryz.f5.params[j]? = some t → args[j]? = some v → Value.okWide Tryz.prog W .any base t v := hval0
  have hW' := hW
  obtain ⟨p, q, hA0, hV, rfl, hfz, hnd⟩ := hW
  have hA : DataW.TrodAll enc Tryz.prog W 0 (fun _ => true) true Tryz.f5.params.toList args.toList ds p := hA0
  rw [Tryz.params5] at hA hval
  obtain ⟨v0, vs0, d0, ds0, p0, q0, hargs, rfl, rfl, h0, r0⟩ := trodAll_cons hA
  obtain ⟨rfl, rfl, rfl⟩ := trodAll_nil r0
  obtain rfl : args = #[v0] := by cases args; simp_all
  obtain ⟨rfl, rfl⟩ := trodVars_none hV
  have k0 := h0
  have lt0 : ∀ x ∈ p0, x.block < W.heap.size := by obtain ⟨m, hm⟩ := k0; exact DataW.trod_lt m _ _ _ hm
  obtain ⟨cs0, rfl, hcs0⟩ := okWide_struct Tryz.underlying52 (hval 0 52 v0 rfl rfl)
  have w0 : ∀ n ∈ d0.weights Tryz.prog 52, n ≤ lim := fun n hn => Nat.le_trans (of_decide_eq_true (List.all_eq_true.1 hsz0 n (DataW.weights_mem_each (j := 0) (t := 52) rfl rfl n hn))) (by decide)
  obtain ⟨fu0, hf0⟩ := h0
  obtain ⟨y0, hy0, ho0, hp0⟩ := (opens_struct (n := 7) Tryz.underlying52 (by kernel_rfl) (OpensF.cons (j := 0) (off := 0) (k := 1) (t := 3) (by kernel_rfl) (by kernel_rfl) (opens_int Tryz.underlying3) (OpensF.cons (j := 1) (off := 1) (k := 1) (t := 3) (by kernel_rfl) (by kernel_rfl) (opens_int Tryz.underlying3) (OpensF.cons (j := 2) (off := 2) (k := 1) (t := 3) (by kernel_rfl) (by kernel_rfl) (opens_int Tryz.underlying3) (OpensF.cons (j := 3) (off := 3) (k := 1) (t := 48) (by kernel_rfl) (by kernel_rfl) (opens_slice (n := 5) [.int .i64 0, .int .i64 0, .int .i64 0, .bool false, .nils] Tryz.underlying48 (by kernel_rfl) (by decide) (by rw [show Tryz.prog.bytesOf 120 = Tryz.prog.bytesOf 120 from rfl]; exact of_decide_eq_true (by kernel_rfl)) (opens_struct (n := 5) Tryz.underlying120 (by kernel_rfl) (OpensF.cons (j := 0) (off := 0) (k := 1) (t := 3) (by kernel_rfl) (by kernel_rfl) (opens_int Tryz.underlying3) (OpensF.cons (j := 1) (off := 1) (k := 2) (t := 117) (by kernel_rfl) (by kernel_rfl) (opens_struct (n := 2) Tryz.underlying117 (by kernel_rfl) (OpensF.cons (j := 0) (off := 0) (k := 1) (t := 3) (by kernel_rfl) (by kernel_rfl) (opens_int Tryz.underlying3) (OpensF.cons (j := 1) (off := 1) (k := 1) (t := 3) (by kernel_rfl) (by kernel_rfl) (opens_int Tryz.underlying3) (OpensF.nil (by decide))))) (OpensF.cons (j := 2) (off := 3) (k := 1) (t := 4) (by kernel_rfl) (by kernel_rfl) (opens_bool Tryz.underlying4) (OpensF.cons (j := 3) (off := 4) (k := 1) (t := 118) (by kernel_rfl) (by kernel_rfl) (opens_slice (n := 4) [.int .i64 0, .int .i64 0, .int .i64 0, .int .i64 0] Tryz.underlying118 (by kernel_rfl) (by decide) (by rw [show Tryz.prog.bytesOf 171 = Tryz.prog.bytesOf 171 from rfl]; exact of_decide_eq_true (by kernel_rfl)) (opens_struct (n := 4) Tryz.underlying171 (by kernel_rfl) (OpensF.cons (j := 0) (off := 0) (k := 1) (t := 3) (by kernel_rfl) (by kernel_rfl) (opens_int Tryz.underlying3) (OpensF.cons (j := 1) (off := 1) (k := 1) (t := 3) (by kernel_rfl) (by kernel_rfl) (opens_int Tryz.underlying3) (OpensF.cons (j := 2) (off := 2) (k := 1) (t := 3) (by kernel_rfl) (by kernel_rfl) (opens_int Tryz.underlying3) (OpensF.cons (j := 3) (off := 3) (k := 1) (t := 3) (by kernel_rfl) (by kernel_rfl) (opens_int Tryz.underlying3) (OpensF.nil (by decide)))))))) (OpensF.nil (by decide)))))))) (OpensF.cons (j := 4) (off := 4) (k := 1) (t := 49) (by kernel_rfl) (by kernel_rfl) (opens_slice (n := 5) [.int .i64 0, .int .i64 0, .int .i64 0, .bool false, .nils] Tryz.underlying49 (by kernel_rfl) (by decide) (by rw [show Tryz.prog.bytesOf 124 = Tryz.prog.bytesOf 124 from rfl]; exact of_decide_eq_true (by kernel_rfl)) (opens_struct (n := 5) Tryz.underlying124 (by kernel_rfl) (OpensF.cons (j := 0) (off := 0) (k := 1) (t := 3) (by kernel_rfl) (by kernel_rfl) (opens_int Tryz.underlying3) (OpensF.cons (j := 1) (off := 1) (k := 1) (t := 3) (by kernel_rfl) (by kernel_rfl) (opens_int Tryz.underlying3) (OpensF.cons (j := 2) (off := 2) (k := 1) (t := 3) (by kernel_rfl) (by kernel_rfl) (opens_int Tryz.underlying3) (OpensF.cons (j := 3) (off := 3) (k := 1) (t := 4) (by kernel_rfl) (by kernel_rfl) (opens_bool Tryz.underlying4) (OpensF.cons (j := 4) (off := 4) (k := 1) (t := 122) (by kernel_rfl) (by kernel_rfl) (opens_slice (n := 7) [.int .i64 0, .int .i64 0, .int .i64 0, .int .i64 0, .int .i64 0, .int .i64 0, .int .i64 0] Tryz.underlying122 (by kernel_rfl) (by decide) (by rw [show Tryz.prog.bytesOf 173 = Tryz.prog.bytesOf 173 from rfl]; exact of_decide_eq_true (by kernel_rfl)) (opens_struct (n := 7) Tryz.underlying173 (by kernel_rfl) (OpensF.cons (j := 0) (off := 0) (k := 1) (t := 3) (by kernel_rfl) (by kernel_rfl) (opens_int Tryz.underlying3) (OpensF.cons (j := 1) (off := 1) (k := 1) (t := 3) (by kernel_rfl) (by kernel_rfl) (opens_int Tryz.underlying3) (OpensF.cons (j := 2) (off := 2) (k := 1) (t := 3) (by kernel_rfl) (by kernel_rfl) (opens_int Tryz.underlying3) (OpensF.cons (j := 3) (off := 3) (k := 1) (t := 3) (by kernel_rfl) (by kernel_rfl) (opens_int Tryz.underlying3) (OpensF.cons (j := 4) (off := 4) (k := 1) (t := 3) (by kernel_rfl) (by kernel_rfl) (opens_int Tryz.underlying3) (OpensF.cons (j := 5) (off := 5) (k := 1) (t := 3) (by kernel_rfl) (by kernel_rfl) (opens_int Tryz.underlying3) (OpensF.cons (j := 6) (off := 6) (k := 1) (t := 3) (by kernel_rfl) (by kernel_rfl) (opens_int Tryz.underlying3) (OpensF.nil (by decide))))))))))) (OpensF.nil (by decide))))))))) (OpensF.cons (j := 5) (off := 5) (k := 1) (t := 50) (by kernel_rfl) (by kernel_rfl) (opens_slice (n := 2) [.int .i64 0, .int .i64 0] Tryz.underlying50 (by kernel_rfl) (by decide) (by rw [show Tryz.prog.bytesOf 129 = Tryz.prog.bytesOf 129 from rfl]; exact of_decide_eq_true (by kernel_rfl)) (opens_struct (n := 2) Tryz.underlying129 (by kernel_rfl) (OpensF.cons (j := 0) (off := 0) (k := 1) (t := 3) (by kernel_rfl) (by kernel_rfl) (opens_int Tryz.underlying3) (OpensF.cons (j := 1) (off := 1) (k := 1) (t := 3) (by kernel_rfl) (by kernel_rfl) (opens_int Tryz.underlying3) (OpensF.nil (by decide)))))) (OpensF.cons (j := 6) (off := 6) (k := 1) (t := 26) (by kernel_rfl) (by kernel_rfl) (opens_slice (n := 1) [.nils] Tryz.underlying26 (by kernel_rfl) (by decide) (by rw [show Tryz.prog.bytesOf 33 = Tryz.prog.bytesOf 33 from rfl]; exact of_decide_eq_true (by kernel_rfl)) (opens_slice (n := 1) [.int .i64 0] Tryz.underlying33 (by kernel_rfl) (by decide) (by rw [show Tryz.prog.bytesOf 3 = Tryz.prog.bytesOf 3 from rfl]; exact of_decide_eq_true (by kernel_rfl)) (opens_int Tryz.underlying3))) (OpensF.nil (by decide)))))))))) H enc W fu0 _ _ hf0 w0
  have gx : Gx Tryz.prog W := ⟨fun p hp => by
    rcases List.mem_cons.1 hp with rfl | hp
    · exact handle_of_laid (P := Tryz.prog) (d := Rows.laid_errors_errorType) (vn := "errors.errorType") (name := [101, 114, 114, 111, 114]) (g := 0) (u := 143) (tx := 61) (k := 216) (by kernel_rfl) (by kernel_rfl) (by kernel_rfl) (by kernel_rfl) (by kernel_rfl) (by kernel_rfl) hL
    cases hp⟩
  clear hA0 hval0
  refine (calls_row (C.lawCheck rfl (List.Mem.head _) y0).call gx (vs := [.agg cs0]) (RepL.join1 (rep_struct hy0) ⟨rfl, fun _ => rfl⟩)).mono fun e W' ⟨he, bel⟩ => ?_
  subst he
  exact ⟨_, rfl, _, _, _, [], _, [], hW', trodAll_mk1 (shut_bool Tryz.underlying4 _), (trodAll_cons_mk (Below.trod laidOut (by kernel_rfl) (of_decide_eq_true (by kernel_rfl)) k0 bel lt0) trodAll_mk0), rfl, bel.frame _, fun h => by cases h⟩
theorem over : Rows.fnExactPlnCheckRow.holds Tryz.pinned (OpenSpec.ofChange Rows.fnExactPlnCheckSpec) :=
  OpenClaim.holds_of_wide 5 Tryz.f5 rfl rfl rfl rfl rfl rfl rfl ⟨rfl, rfl, rfl, rfl, rfl⟩ rfl rfl rfl rfl rfl (by kernel_rfl) Tryz.func5 (by kernel_rfl)
    (of_decide_eq_true (by kernel_rfl)) (by unfold Func.isWrapper; first | (rw [if_pos (by decide +kernel)]; kernel_rfl) | (rw [if_neg (by decide +kernel)]; exact ⟨rfl, rfl⟩))
    (fun os started H enc _ => lifted os started H enc)
theorem proved : Rows.FnExactPlnCheckSaid := over
end Go.Proofs.YtnhcchmbdkiodaaGreatDoor.fnExactPlnCheck
namespace Go.Proofs.YtnhcchmbdkiodaaGreatDoor
set_option maxRecDepth 100000 in
/-- The tied card of the row, for the claim. -/
theorem fnExactPlnCheck_holds : Rows.FnExactPlnCheckCardSaid :=
  Claim7.holds_tied_plain_at .later [] [.handle] true (true, "9fcabbf213877c771369734d2161b69f472e14fbb4fd100678ba1320f4545300") true
    fnExactPlnCheck.over (fun _ h => by cases h) (by kernel_rfl) (fun _ h => by cases h) fnExactPlnCheck_row_tie rfl ⟨rfl, rfl⟩ (by kernel_rfl) rfl
    (fun f fn hf hfn => by
      obtain rfl : f = 5 := Option.some.inj ((show Tryz.prog.funcNamed "loop.example/casemate/laws.FnExactPlnCheck" = some 5 by kernel_rfl).symm.trans hf) |>.symm
      obtain rfl : fn = Tryz.f5 := (Option.some.inj (Tryz.func5.symm.trans hfn)).symm
      exact ⟨by kernel_rfl, fun j t ht => by
        rw [Tryz.params5] at ht
        have hm := Array.mem_of_getElem? ht
        simp only [List.mem_toArray, List.mem_cons, List.not_mem_nil, or_false] at hm
        rcases hm with rfl
        exact (show Tryz.prog.wantsStandIn 52 = false by kernel_rfl)⟩)
    (by kernel_rfl)
#print axioms fnExactPlnCheck_holds
end Go.Proofs.YtnhcchmbdkiodaaGreatDoor
