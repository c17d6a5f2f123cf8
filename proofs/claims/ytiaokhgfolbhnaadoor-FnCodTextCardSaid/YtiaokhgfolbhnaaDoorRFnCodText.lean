/- The row of FnCodText: for every input the law returns true, each argument reads behind the call as it read before. -/
import Derived.Test.YtiaokhgfolbhnaaDoorRows
import Derived.Test.YtiaokhgfolbhnaaDoorCTextL
import Derived.Test.YtiaokhgfolbhnaaDoorAvZ
import Derived.Test.YtiaokhgfolbhnaaDoorAvT
import Derived.WalkKit
import Derived.ProofKit
import Derived.OpenShut
import Derived.ShutString
import Derived.ChangeOld
import Derived.Below
import Derived.SizedLaws
import Derived.ChangeVars
import Derived.JoinedOf
import Derived.RowKit
import Derived.RowKitTokens
import Derived.LaidLaws
import Derived.LaidMore
import Derived.LaidHandle
import Derived.Lay
import Derived.MakeChecks
import Derived.Stop.Joined
import Derived.SevenTiedAt
import Derived.Test.YtiaokhgfolbhnaaDoorTie
import Derived.Test.YtiaokhgfolbhnaaDoorCards
namespace Go.Proofs.YtiaokhgfolbhnaaDoor.fnCodText
open Go Go.Av Go.ChangeShapes Go.WideShapes Go.ChangeAt Go.RowKit
open Go.ChangeMaps (open_string shut_string)
set_option linter.unusedVariables false
theorem own : ownKnob Tryd.prog.godebug = none := by kernel_rfl
instance known : Known Tryd.prog := ⟨[(1, (Lib.pow10Tab.map fun z => Value.int .u64 z).toArray)]⟩
theorem laidOut : laidOutB Tryd.prog = true := by kernel_rfl
noncomputable def laidWorld (os : Os) : World := World.laidAll Tryd.prog os Rows.fnCodTextRow.laid
set_option maxRecDepth 100000 in
theorem laidWorld_met (os : Os) (args : Array Value) : laidMetH Tryd.prog Rows.fnCodTextRow.laid ((laidWorld os).forCall (fun _ _ => 0) ⟨#[], args, []⟩).memory := by
  rw [MakeChecks.laidMetH_plain _ _ _ (by kernel_rfl)]
  exact laidMet_laidAll _ (by kernel_rfl) (by kernel_rfl)
set_option maxRecDepth 100000 in
theorem lifted (os : Os) (started : os.Started) (H : Type) (enc : TypeId × Value → H) :
    ReturnsInHanded {} Tryd.checked os 12 .any (fun w args => (Rows.fnCodTextSpec.pre enc Tryd.prog Tryd.f12 [] false w args ∧ laidMetH Tryd.prog Rows.fnCodTextRow.laid w) ∧ sizedMet enc Tryd.prog Tryd.f12 (OpenSpec.ofChange Rows.fnCodTextSpec) false w args) (Rows.fnCodTextSpec.post enc Tryd.prog Tryd.f12 false true false false) := by
  refine returnsInHanded_of_change_and (C := Tryd.checked) (X := fun w _ => laidMetH Tryd.prog Rows.fnCodTextRow.laid w) (fun _ _ _ hh h => h.of_heap hh) own started (by kernel_rfl) Tryd.func12
    (ChangeSpec.witness_shaped (enc := enc) (C := Tryd.checked) (os := os) (X := fun w _ => laidMetH Tryd.prog Rows.fnCodTextRow.laid w) false (laidWorld os) #[.slice none 0 0, .slice none 0 0] 8 (World.laidAll_os _ _ _) (World.shaped_of_ZipB (by kernel_rfl) (by kernel_rfl)) (by kernel_rfl) (by kernel_rfl) (by kernel_rfl) (laidWorld_met os _)) ?_
  intro W base args ds gs before hval0 hW hcnd hsz0 hL _
  have hval : ∀ (j : Nat) t v, Tryd.f12.params[j]? = some t → args[j]? = some v → Value.okWide Tryd.prog W .any base t v := hval0
  have hW' := hW
  obtain ⟨p, q, hA0, hV, rfl, hfz, hnd⟩ := hW
  have hA : DataW.TrodAll enc Tryd.prog W 0 (fun _ => true) true Tryd.f12.params.toList args.toList ds p := hA0
  rw [Tryd.params12] at hA hval
  obtain ⟨v0, vs0, d0, ds0, p0, q0, hargs, rfl, rfl, h0, r0⟩ := trodAll_cons hA
  obtain ⟨v1, vs1, d1, ds1, p1, q1, rfl, rfl, rfl, h1, r1⟩ := trodAll_cons r0
  obtain ⟨rfl, rfl, rfl⟩ := trodAll_nil r1
  obtain rfl : args = #[v0, v1] := by cases args; simp_all
  obtain ⟨rfl, rfl⟩ := trodVars_none hV
  have k0 := h0
  have lt0 : ∀ x ∈ p0, x.block < W.heap.size := by obtain ⟨m, hm⟩ := k0; exact DataW.trod_lt m _ _ _ hm
  obtain ⟨a0, len0, cap0, rfl⟩ := okWide_slice Tryd.underlying22 (hval 0 22 v0 rfl rfl)
  have w0 : ∀ n ∈ d0.weights Tryd.prog 22, n ≤ lim := fun n hn => Nat.le_trans (of_decide_eq_true (List.all_eq_true.1 hsz0 n (DataW.weights_mem_each (j := 0) (t := 22) rfl rfl n hn))) (by decide)
  obtain ⟨fu0, hf0⟩ := h0
  obtain ⟨y0, hy0, ho0, hp0⟩ := (opens_slice (n := 1) [.int .u8 0] Tryd.underlying22 (by kernel_rfl) (by decide) (by rw [show Tryd.prog.bytesOf 5 = Tryd.prog.bytesOf 5 from rfl]; exact of_decide_eq_true (by kernel_rfl)) (opens_byte Tryd.underlying5)) H enc W fu0 _ _ hf0 w0
  have k1 := h1
  have lt1 : ∀ x ∈ p1, x.block < W.heap.size := by obtain ⟨m, hm⟩ := k1; exact DataW.trod_lt m _ _ _ hm
  obtain ⟨a1, len1, cap1, rfl⟩ := okWide_slice Tryd.underlying22 (hval 1 22 v1 rfl rfl)
  have w1 : ∀ n ∈ d1.weights Tryd.prog 22, n ≤ lim := fun n hn => Nat.le_trans (of_decide_eq_true (List.all_eq_true.1 hsz0 n (DataW.weights_mem_each (j := 1) (t := 22) rfl rfl n hn))) (by decide)
  obtain ⟨fu1, hf1⟩ := h1
  obtain ⟨y1, hy1, ho1, hp1⟩ := (opens_slice (n := 1) [.int .u8 0] Tryd.underlying22 (by kernel_rfl) (by decide) (by rw [show Tryd.prog.bytesOf 5 = Tryd.prog.bytesOf 5 from rfl]; exact of_decide_eq_true (by kernel_rfl)) (opens_byte Tryd.underlying5)) H enc W fu1 _ _ hf1 w1
  have gx : Gx Tryd.prog W := ⟨fun p hp => by
    rcases List.mem_cons.1 hp with rfl | hp
    · exact tab_of_laid (name := "internal/strconv.uint64pow10") (k := .u64) (zs := Lib.pow10Tab) (t := 164) (n := 20) (e := 155) (by kernel_rfl) (by kernel_rfl) (by kernel_rfl) (by kernel_rfl) (by kernel_rfl) (by kernel_rfl) (by first | exact List.Mem.head _ | exact List.Mem.tail _ (List.Mem.head _) | exact List.Mem.tail _ (List.Mem.tail _ (List.Mem.head _)) | exact List.Mem.tail _ (List.Mem.tail _ (List.Mem.tail _ (List.Mem.head _)))) hL
    cases hp⟩
  clear hA0 hval0
  refine (calls_row (C.lawText rfl 1 (by kernel_rfl) (List.Mem.head _) y0 y1).call gx (vs := [.slice a0 len0 cap0, .slice a1 len1 cap1]) (RepL.join1 hy0 (RepL.join1 hy1 ⟨rfl, fun _ => rfl⟩))).mono fun e W' ⟨he, bel⟩ => ?_
  subst he
  exact ⟨_, rfl, _, _, _, [], _, [], hW', trodAll_mk1 (shut_bool Tryd.underlying4 _), (trodAll_cons_mk (Below.trod laidOut (by kernel_rfl) (of_decide_eq_true (by kernel_rfl)) k0 bel lt0) (trodAll_cons_mk (Below.trod laidOut (by kernel_rfl) (of_decide_eq_true (by kernel_rfl)) k1 bel lt1) trodAll_mk0)), rfl, bel.frame _, fun h => by cases h⟩
theorem over : Rows.fnCodTextRow.holds Tryd.pinned (OpenSpec.ofChange Rows.fnCodTextSpec) :=
  OpenClaim.holds_of_wide 12 Tryd.f12 rfl rfl rfl rfl rfl rfl rfl ⟨rfl, rfl, rfl, rfl, rfl⟩ rfl rfl rfl rfl rfl (by kernel_rfl) Tryd.func12 (by kernel_rfl)
    (of_decide_eq_true (by kernel_rfl)) (by unfold Func.isWrapper; first | (rw [if_pos (by decide +kernel)]; kernel_rfl) | (rw [if_neg (by decide +kernel)]; exact ⟨rfl, rfl⟩))
    (fun os started H enc _ => lifted os started H enc)
theorem proved : Rows.FnCodTextSaid := over
end Go.Proofs.YtiaokhgfolbhnaaDoor.fnCodText
namespace Go.Proofs.YtiaokhgfolbhnaaDoor
set_option maxRecDepth 100000 in
/-- The tied card of the row, for the claim. -/
theorem fnCodText_holds : Rows.FnCodTextCardSaid :=
  Claim7.holds_tied_plain_at .later [] [.data, .data, .data, .data, .pinned] true (true, "dff2ddd84149d6ce70e7e2a6ea0255642617a95026ece83d2e0eb256175b1d2c") true
    fnCodText.over (fun _ h => by cases h) (by kernel_rfl) (fun _ h => by cases h) fnCodText_row_tie rfl ⟨rfl, rfl⟩ (by kernel_rfl) rfl
    (fun f fn hf hfn => by
      obtain rfl : f = 12 := Option.some.inj ((show Tryd.prog.funcNamed "loop.example/casemate/laws.FnCodText" = some 12 by kernel_rfl).symm.trans hf) |>.symm
      obtain rfl : fn = Tryd.f12 := (Option.some.inj (Tryd.func12.symm.trans hfn)).symm
      exact ⟨by kernel_rfl, fun j t ht => by
        rw [Tryd.params12] at ht
        have hm := Array.mem_of_getElem? ht
        simp only [List.mem_toArray, List.mem_cons, List.not_mem_nil, or_false] at hm
        rcases hm with rfl | rfl
        all_goals first | exact (show Tryd.prog.wantsStandIn 22 = false by kernel_rfl)⟩)
    (by kernel_rfl)
#print axioms fnCodText_holds
end Go.Proofs.YtiaokhgfolbhnaaDoor
