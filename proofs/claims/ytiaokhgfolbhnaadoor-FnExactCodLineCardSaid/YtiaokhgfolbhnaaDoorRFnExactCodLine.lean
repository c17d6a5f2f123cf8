/- The row of FnExactCodLine: for every input the law returns true, each argument reads behind the call as it read before. -/
import Derived.Test.YtiaokhgfolbhnaaDoorRows
import Derived.Test.YtiaokhgfolbhnaaDoorCLineL
import Derived.Test.YtiaokhgfolbhnaaDoorAvZ
import Derived.Test.YtiaokhgfolbhnaaDoorAvT
import Derived.WalkKit
import Derived.ProofKit
import Derived.OpenShut
import Derived.ShutString
import Derived.ChangeOld
import Derived.Below
import Derived.SizedLaws
import Derived.ChangeVars
import Derived.JoinedOf
import Derived.RowKit
import Derived.RowKitTokens
import Derived.LaidLaws
import Derived.LaidMore
import Derived.LaidHandle
import Derived.Stop.Joined
import Derived.SevenTiedAt
import Derived.Test.YtiaokhgfolbhnaaDoorTie
import Derived.Test.YtiaokhgfolbhnaaDoorCards
namespace Go.Proofs.YtiaokhgfolbhnaaDoor.fnExactCodLine
open Go Go.Av Go.ChangeShapes Go.WideShapes Go.ChangeAt Go.RowKit
open Go.ChangeMaps (open_string shut_string)
set_option linter.unusedVariables false
theorem own : ownKnob Tryd.prog.godebug = none := by kernel_rfl
instance known : Known Tryd.prog := ⟨[(1, (Lib.pow10Tab.map fun z => Value.int .u64 z).toArray)]⟩
theorem laidOut : laidOutB Tryd.prog = true := by kernel_rfl
noncomputable def laidWorld (os : Os) : World := World.doorLaid Tryd.prog 400 os
set_option maxRecDepth 100000 in
theorem laidWorld_met (os : Os) (args : Array Value) : laidMetH Tryd.prog Rows.fnExactCodLineRow.laid ((laidWorld os).forCall (fun _ _ => 0) ⟨#[], args, []⟩).memory :=
  laidMetH_of_parts3 (fuel := 8) (laidMet_of_run' 8 (by kernel_rfl) (by kernel_rfl)) (by kernel_rfl) (by kernel_rfl)
set_option maxRecDepth 100000 in
theorem lifted (os : Os) (started : os.Started) (H : Type) (enc : TypeId × Value → H) :
    ReturnsInHanded {} Tryd.checked os 9 .any (fun w args => (Rows.fnExactCodLineSpec.pre enc Tryd.prog Tryd.f9 [] false w args ∧ laidMetH Tryd.prog Rows.fnExactCodLineRow.laid w) ∧ sizedMet enc Tryd.prog Tryd.f9 (OpenSpec.ofChange Rows.fnExactCodLineSpec) false w args) (Rows.fnExactCodLineSpec.post enc Tryd.prog Tryd.f9 false true false false) := by
  refine returnsInHanded_of_change_and (C := Tryd.checked) (X := fun w _ => laidMetH Tryd.prog Rows.fnExactCodLineRow.laid w) (fun _ _ _ hh h => h.of_heap hh) own started (by kernel_rfl) Tryd.func9
    (ChangeSpec.witness_shaped (enc := enc) (C := Tryd.checked) (os := os) (X := fun w _ => laidMetH Tryd.prog Rows.fnExactCodLineRow.laid w) false (laidWorld os) #[.agg #[.int .i64 0, .int .i64 0, .int .i64 0, .int .i64 0]] 8 rfl (World.shaped_of_RefB (by kernel_rfl) (by kernel_rfl)) (by kernel_rfl) (by kernel_rfl) (by kernel_rfl) (laidWorld_met os _)) ?_
  intro W base args ds gs before hval0 hW hcnd hsz0 hL _
  have hval : ∀ (j : Nat) t v, Tryd.f9.params[j]? = some t → args[j]? = some v → Value.okWide Tryd.prog W .any base t v := hval0
  have hW' := hW
  obtain ⟨p, q, hA0, hV, rfl, hfz, hnd⟩ := hW
  have hA : DataW.TrodAll enc Tryd.prog W 0 (fun _ => true) true Tryd.f9.params.toList args.toList ds p := hA0
  rw [Tryd.params9] at hA hval
  obtain ⟨v0, vs0, d0, ds0, p0, q0, hargs, rfl, rfl, h0, r0⟩ := trodAll_cons hA
  obtain ⟨rfl, rfl, rfl⟩ := trodAll_nil r0
  obtain rfl : args = #[v0] := by cases args; simp_all
  obtain ⟨rfl, rfl⟩ := trodVars_none hV
  have k0 := h0
  have lt0 : ∀ x ∈ p0, x.block < W.heap.size := by obtain ⟨m, hm⟩ := k0; exact DataW.trod_lt m _ _ _ hm
  obtain ⟨cs0, rfl, hcs0⟩ := okWide_struct Tryd.underlying51 (hval 0 51 v0 rfl rfl)
  have w0 : ∀ n ∈ d0.weights Tryd.prog 51, n ≤ lim := fun n hn => Nat.le_trans (of_decide_eq_true (List.all_eq_true.1 hsz0 n (DataW.weights_mem_each (j := 0) (t := 51) rfl rfl n hn))) (by decide)
  obtain ⟨fu0, hf0⟩ := h0
  obtain ⟨y0, hy0, ho0, hp0⟩ := (opens_struct (n := 4) Tryd.underlying51 (by kernel_rfl) (OpensF.cons (j := 0) (off := 0) (k := 1) (t := 3) (by kernel_rfl) (by kernel_rfl) (opens_int Tryd.underlying3) (OpensF.cons (j := 1) (off := 1) (k := 1) (t := 3) (by kernel_rfl) (by kernel_rfl) (opens_int Tryd.underlying3) (OpensF.cons (j := 2) (off := 2) (k := 1) (t := 3) (by kernel_rfl) (by kernel_rfl) (opens_int Tryd.underlying3) (OpensF.cons (j := 3) (off := 3) (k := 1) (t := 3) (by kernel_rfl) (by kernel_rfl) (opens_int Tryd.underlying3) (OpensF.nil (by decide))))))) H enc W fu0 _ _ hf0 w0
  have gx : Gx Tryd.prog W := ⟨fun p hp => by
    rcases List.mem_cons.1 hp with rfl | hp
    · exact tab_of_laid (name := "internal/strconv.uint64pow10") (k := .u64) (zs := Lib.pow10Tab) (t := 164) (n := 20) (e := 155) (by kernel_rfl) (by kernel_rfl) (by kernel_rfl) (by kernel_rfl) (by kernel_rfl) (by kernel_rfl) (by first | exact List.Mem.head _ | exact List.Mem.tail _ (List.Mem.head _) | exact List.Mem.tail _ (List.Mem.tail _ (List.Mem.head _)) | exact List.Mem.tail _ (List.Mem.tail _ (List.Mem.tail _ (List.Mem.head _)))) hL
    cases hp⟩
  clear hA0 hval0
  refine (calls_row (C.lawLine rfl 1 (by kernel_rfl) (List.Mem.head _) y0).call gx (vs := [.agg cs0]) (RepL.join1 (rep_struct hy0) ⟨rfl, fun _ => rfl⟩)).mono fun e W' ⟨he, bel⟩ => ?_
  subst he
  exact ⟨_, rfl, _, _, _, [], _, [], hW', trodAll_mk1 (shut_bool Tryd.underlying4 _), (trodAll_cons_mk (Below.trod laidOut (by kernel_rfl) (of_decide_eq_true (by kernel_rfl)) k0 bel lt0) trodAll_mk0), rfl, bel.frame _, fun h => by cases h⟩
theorem over : Rows.fnExactCodLineRow.holds Tryd.pinned (OpenSpec.ofChange Rows.fnExactCodLineSpec) :=
  OpenClaim.holds_of_wide 9 Tryd.f9 rfl rfl rfl rfl rfl rfl rfl ⟨rfl, rfl, rfl, rfl, rfl⟩ rfl rfl rfl rfl rfl (by kernel_rfl) Tryd.func9 (by kernel_rfl)
    (of_decide_eq_true (by kernel_rfl)) (by unfold Func.isWrapper; first | (rw [if_pos (by decide +kernel)]; kernel_rfl) | (rw [if_neg (by decide +kernel)]; exact ⟨rfl, rfl⟩))
    (fun os started H enc _ => lifted os started H enc)
theorem proved : Rows.FnExactCodLineSaid := over
end Go.Proofs.YtiaokhgfolbhnaaDoor.fnExactCodLine
namespace Go.Proofs.YtiaokhgfolbhnaaDoor
set_option maxRecDepth 100000 in
/-- The tied card of the row, for the claim. -/
theorem fnExactCodLine_holds : Rows.FnExactCodLineCardSaid :=
  Claim7.holds_tied_plain_at .later [] [.data, .data, .data] true (true, "dff2ddd84149d6ce70e7e2a6ea0255642617a95026ece83d2e0eb256175b1d2c") true
    fnExactCodLine.over (fun _ h => by cases h) (by kernel_rfl) (fun _ h => by cases h) fnExactCodLine_row_tie rfl ⟨rfl, rfl⟩ (by kernel_rfl) rfl
    (fun f fn hf hfn => by
      obtain rfl : f = 9 := Option.some.inj ((show Tryd.prog.funcNamed "loop.example/casemate/laws.FnExactCodLine" = some 9 by kernel_rfl).symm.trans hf) |>.symm
      obtain rfl : fn = Tryd.f9 := (Option.some.inj (Tryd.func9.symm.trans hfn)).symm
      exact ⟨by kernel_rfl, fun j t ht => by
        rw [Tryd.params9] at ht
        have hm := Array.mem_of_getElem? ht
        simp only [List.mem_toArray, List.mem_cons, List.not_mem_nil, or_false] at hm
        rcases hm with rfl
        exact (show Tryd.prog.wantsStandIn 51 = false by kernel_rfl)⟩)
    (by kernel_rfl)
#print axioms fnExactCodLine_holds
end Go.Proofs.YtiaokhgfolbhnaaDoor
