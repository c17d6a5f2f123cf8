/- The row of FnExactNodNew: for every input the law returns true, each argument reads behind the call as it read before. -/
import Derived.Test.YtjlmfcddbcoimaaGreatRows
import Derived.Test.YtjlmfcddbcoimaaGreatCNodN
import Derived.Test.YtjlmfcddbcoimaaGreatAvM1
import Derived.WalkKit
import Derived.ProofKit
import Derived.OpenShut
import Derived.ShutString
import Derived.ChangeOld
import Derived.Below
import Derived.SizedLaws
namespace Go.Proofs.YtjlmfcddbcoimaaGreat.fnExactNodNew
open Go Go.Av Go.ChangeShapes Go.WideShapes Go.ChangeAt Go.RowKit
open Go.ChangeMaps (open_string shut_string)
set_option linter.unusedVariables false
theorem own : ownKnob Tryz.prog.godebug = none := by kernel_rfl
instance known : Known Tryz.prog := ⟨[]⟩
theorem laidOut : laidOutB Tryz.prog = true := by kernel_rfl
set_option maxRecDepth 100000 in
theorem lifted (os : Os) (started : os.Started) (H : Type) (enc : TypeId × Value → H) :
    ReturnsInHanded {} Tryz.checked os 3 .any (Rows.fnExactNodNewSpec.pre6 enc Tryz.prog Tryz.f3 Rows.fnExactNodNewRow.domain false) (Rows.fnExactNodNewSpec.post enc Tryz.prog Tryz.f3 false true false false) := by
  refine returnsInHanded_of_change_sized (C := Tryz.checked) own started (by kernel_rfl) Tryz.func3
    (ChangeSpec.witness6 (enc := enc) (C := Tryz.checked) false ⟨#[], #[.agg #[.int .i64 0, .int .i64 0, .int .i64 0, .slice none 0 0, .slice none 0 0, .slice none 0 0, .slice none 0 0], .int .i64 0], []⟩ 8 (by kernel_rfl) (by kernel_rfl) (by kernel_rfl) (by kernel_rfl)) ?_
  intro W base args ds gs before hval0 hW hcnd hsz0 _
  have hval : ∀ (j : Nat) t v, Tryz.f3.params[j]? = some t → args[j]? = some v → Value.okWide Tryz.prog W .any base t v := hval0
  have hW' := hW
  obtain ⟨p, q, hA0, hV, rfl, hfz, hnd⟩ := hW
  have hA : DataW.TrodAll enc Tryz.prog W 0 (fun _ => true) true Tryz.f3.params.toList args.toList ds p := hA0
  rw [Tryz.params3] at hA hval
  obtain ⟨v0, vs0, d0, ds0, p0, q0, hargs, rfl, rfl, h0, r0⟩ := trodAll_cons hA
  obtain ⟨v1, vs1, d1, ds1, p1, q1, rfl, rfl, rfl, h1, r1⟩ := trodAll_cons r0
  obtain ⟨rfl, rfl, rfl⟩ := trodAll_nil r1
  obtain rfl : args = #[v0, v1] := by cases args; simp_all
  obtain ⟨rfl, rfl⟩ := trodVars_none hV
  have k0 := h0
  have lt0 : ∀ x ∈ p0, x.block < W.heap.size := by obtain ⟨m, hm⟩ := k0; exact DataW.trod_lt m _ _ _ hm
  obtain ⟨cs0, rfl, hcs0⟩ := okWide_struct Tryz.underlying27 (hval 0 27 v0 rfl rfl)
  have w0 : ∀ n ∈ d0.weights Tryz.prog 27, n ≤ lim := fun n hn => Nat.le_trans (of_decide_eq_true (List.all_eq_true.1 hsz0 n (DataW.weights_mem_each (j := 0) (t := 27) rfl rfl n hn))) (by decide)
  obtain ⟨fu0, hf0⟩ := h0
  obtain ⟨y0, hy0, ho0, hp0⟩ := (opens_struct (n := 7) Tryz.underlying27 (by kernel_rfl) (OpensF.cons (j := 0) (off := 0) (k := 1) (t := 3) (by kernel_rfl) (by kernel_rfl) (opens_int Tryz.underlying3) (OpensF.cons (j := 1) (off := 1) (k := 1) (t := 3) (by kernel_rfl) (by kernel_rfl) (opens_int Tryz.underlying3) (OpensF.cons (j := 2) (off := 2) (k := 1) (t := 3) (by kernel_rfl) (by kernel_rfl) (opens_int Tryz.underlying3) (OpensF.cons (j := 3) (off := 3) (k := 1) (t := 22) (by kernel_rfl) (by kernel_rfl) (opens_slice (n := 5) [.int .i64 0, .int .i64 0, .int .i64 0, .bool false, .nils] Tryz.underlying22 (by kernel_rfl) (by decide) (by rw [show Tryz.prog.bytesOf 189 = Tryz.prog.bytesOf 189 from rfl]; exact of_decide_eq_true (by kernel_rfl)) (opens_struct (n := 5) Tryz.underlying189 (by kernel_rfl) (OpensF.cons (j := 0) (off := 0) (k := 1) (t := 3) (by kernel_rfl) (by kernel_rfl) (opens_int Tryz.underlying3) (OpensF.cons (j := 1) (off := 1) (k := 2) (t := 186) (by kernel_rfl) (by kernel_rfl) (opens_struct (n := 2) Tryz.underlying186 (by kernel_rfl) (OpensF.cons (j := 0) (off := 0) (k := 1) (t := 3) (by kernel_rfl) (by kernel_rfl) (opens_int Tryz.underlying3) (OpensF.cons (j := 1) (off := 1) (k := 1) (t := 3) (by kernel_rfl) (by kernel_rfl) (opens_int Tryz.underlying3) (OpensF.nil (by decide))))) (OpensF.cons (j := 2) (off := 3) (k := 1) (t := 4) (by kernel_rfl) (by kernel_rfl) (opens_bool Tryz.underlying4) (OpensF.cons (j := 3) (off := 4) (k := 1) (t := 187) (by kernel_rfl) (by kernel_rfl) (opens_slice (n := 4) [.int .i64 0, .int .i64 0, .int .i64 0, .int .i64 0] Tryz.underlying187 (by kernel_rfl) (by decide) (by rw [show Tryz.prog.bytesOf 305 = Tryz.prog.bytesOf 305 from rfl]; exact of_decide_eq_true (by kernel_rfl)) (opens_struct (n := 4) Tryz.underlying305 (by kernel_rfl) (OpensF.cons (j := 0) (off := 0) (k := 1) (t := 3) (by kernel_rfl) (by kernel_rfl) (opens_int Tryz.underlying3) (OpensF.cons (j := 1) (off := 1) (k := 1) (t := 3) (by kernel_rfl) (by kernel_rfl) (opens_int Tryz.underlying3) (OpensF.cons (j := 2) (off := 2) (k := 1) (t := 3) (by kernel_rfl) (by kernel_rfl) (opens_int Tryz.underlying3) (OpensF.cons (j := 3) (off := 3) (k := 1) (t := 3) (by kernel_rfl) (by kernel_rfl) (opens_int Tryz.underlying3) (OpensF.nil (by decide)))))))) (OpensF.nil (by decide)))))))) (OpensF.cons (j := 4) (off := 4) (k := 1) (t := 23) (by kernel_rfl) (by kernel_rfl) (opens_slice (n := 5) [.int .i64 0, .int .i64 0, .int .i64 0, .bool false, .nils] Tryz.underlying23 (by kernel_rfl) (by decide) (by rw [show Tryz.prog.bytesOf 193 = Tryz.prog.bytesOf 193 from rfl]; exact of_decide_eq_true (by kernel_rfl)) (opens_struct (n := 5) Tryz.underlying193 (by kernel_rfl) (OpensF.cons (j := 0) (off := 0) (k := 1) (t := 3) (by kernel_rfl) (by kernel_rfl) (opens_int Tryz.underlying3) (OpensF.cons (j := 1) (off := 1) (k := 1) (t := 3) (by kernel_rfl) (by kernel_rfl) (opens_int Tryz.underlying3) (OpensF.cons (j := 2) (off := 2) (k := 1) (t := 3) (by kernel_rfl) (by kernel_rfl) (opens_int Tryz.underlying3) (OpensF.cons (j := 3) (off := 3) (k := 1) (t := 4) (by kernel_rfl) (by kernel_rfl) (opens_bool Tryz.underlying4) (OpensF.cons (j := 4) (off := 4) (k := 1) (t := 191) (by kernel_rfl) (by kernel_rfl) (opens_slice (n := 7) [.int .i64 0, .int .i64 0, .int .i64 0, .int .i64 0, .int .i64 0, .int .i64 0, .int .i64 0] Tryz.underlying191 (by kernel_rfl) (by decide) (by rw [show Tryz.prog.bytesOf 307 = Tryz.prog.bytesOf 307 from rfl]; exact of_decide_eq_true (by kernel_rfl)) (opens_struct (n := 7) Tryz.underlying307 (by kernel_rfl) (OpensF.cons (j := 0) (off := 0) (k := 1) (t := 3) (by kernel_rfl) (by kernel_rfl) (opens_int Tryz.underlying3) (OpensF.cons (j := 1) (off := 1) (k := 1) (t := 3) (by kernel_rfl) (by kernel_rfl) (opens_int Tryz.underlying3) (OpensF.cons (j := 2) (off := 2) (k := 1) (t := 3) (by kernel_rfl) (by kernel_rfl) (opens_int Tryz.underlying3) (OpensF.cons (j := 3) (off := 3) (k := 1) (t := 3) (by kernel_rfl) (by kernel_rfl) (opens_int Tryz.underlying3) (OpensF.cons (j := 4) (off := 4) (k := 1) (t := 3) (by kernel_rfl) (by kernel_rfl) (opens_int Tryz.underlying3) (OpensF.cons (j := 5) (off := 5) (k := 1) (t := 3) (by kernel_rfl) (by kernel_rfl) (opens_int Tryz.underlying3) (OpensF.cons (j := 6) (off := 6) (k := 1) (t := 3) (by kernel_rfl) (by kernel_rfl) (opens_int Tryz.underlying3) (OpensF.nil (by decide))))))))))) (OpensF.nil (by decide))))))))) (OpensF.cons (j := 5) (off := 5) (k := 1) (t := 24) (by kernel_rfl) (by kernel_rfl) (opens_slice (n := 2) [.int .i64 0, .int .i64 0] Tryz.underlying24 (by kernel_rfl) (by decide) (by rw [show Tryz.prog.bytesOf 210 = Tryz.prog.bytesOf 210 from rfl]; exact of_decide_eq_true (by kernel_rfl)) (opens_struct (n := 2) Tryz.underlying210 (by kernel_rfl) (OpensF.cons (j := 0) (off := 0) (k := 1) (t := 3) (by kernel_rfl) (by kernel_rfl) (opens_int Tryz.underlying3) (OpensF.cons (j := 1) (off := 1) (k := 1) (t := 3) (by kernel_rfl) (by kernel_rfl) (opens_int Tryz.underlying3) (OpensF.nil (by decide)))))) (OpensF.cons (j := 6) (off := 6) (k := 1) (t := 25) (by kernel_rfl) (by kernel_rfl) (opens_slice (n := 1) [.nils] Tryz.underlying25 (by kernel_rfl) (by decide) (by rw [show Tryz.prog.bytesOf 33 = Tryz.prog.bytesOf 33 from rfl]; exact of_decide_eq_true (by kernel_rfl)) (opens_slice (n := 1) [.int .i64 0] Tryz.underlying33 (by kernel_rfl) (by decide) (by rw [show Tryz.prog.bytesOf 3 = Tryz.prog.bytesOf 3 from rfl]; exact of_decide_eq_true (by kernel_rfl)) (opens_int Tryz.underlying3))) (OpensF.nil (by decide)))))))))) H enc W fu0 _ _ hf0 w0
  have k1 := h1
  have lt1 : ∀ x ∈ p1, x.block < W.heap.size := by obtain ⟨m, hm⟩ := k1; exact DataW.trod_lt m _ _ _ hm
  obtain ⟨x1, rfl, _, _, hx1⟩ := open_int Tryz.underlying3 (hval 1 3 v1 rfl rfl) h1
  have w1 : ∀ n ∈ d1.weights Tryz.prog 3, n ≤ lim := fun n hn => Nat.le_trans (of_decide_eq_true (List.all_eq_true.1 hsz0 n (DataW.weights_mem_each (j := 1) (t := 3) rfl rfl n hn))) (by decide)
  obtain ⟨fu1, hf1⟩ := h1
  obtain ⟨y1, hy1, ho1, hp1⟩ := (opens_int Tryz.underlying3) H enc W fu1 _ _ hf1 w1
  have gx : Gx Tryz.prog W := ⟨fun p hp => by cases hp⟩
  clear hA0 hval0
  refine (calls_row (C.lawNew rfl y0 y1).call gx (vs := [.agg cs0, .int .i64 x1]) (RepL.join1 (rep_struct hy0) (RepL.join1 hy1 ⟨rfl, fun _ => rfl⟩))).mono fun e W' ⟨he, bel⟩ => ?_
  subst he
  exact ⟨_, rfl, _, _, _, [], _, [], hW', trodAll_mk1 (shut_bool Tryz.underlying4 _), (trodAll_cons_mk (Below.trod laidOut (by kernel_rfl) (of_decide_eq_true (by kernel_rfl)) k0 bel lt0) (trodAll_cons_mk (Below.trod laidOut (by kernel_rfl) (of_decide_eq_true (by kernel_rfl)) k1 bel lt1) trodAll_mk0)), rfl, bel.frame _, fun h => by cases h⟩
theorem j0 : laidOutB Tryz.prog = true := by kernel_rfl
theorem j1 : mapsRowed Tryz.prog = true := by kernel_rfl
theorem j2 : (Rows.fnExactNodNewRow.inPlace == Tryz.prog.inPlace 3) = true := by kernel_rfl
theorem j3 : (Rows.fnExactNodNewRow.unfollowed == Tryz.prog.unfollowed 3) = true := by kernel_rfl
theorem j4 : (Rows.fnExactNodNewRow.recurses == Tryz.prog.recurses 3) = true := by kernel_rfl
theorem j5 : (Rows.fnExactNodNewRow.named == Tryz.prog.varsNamed 3) = true := by kernel_rfl
theorem j6 : (Rows.fnExactNodNewRow.plainKeys == Tryz.prog.plainKeys) = true := by kernel_rfl
theorem j7 : Tryz.prog.stopsHeard = true := by kernel_rfl
theorem j8 : Tryz.prog.mayEnter = true := by kernel_rfl
theorem j9 : (Rows.fnExactNodNewRow.lifted == Tryz.prog.liftsFinal) = true := by kernel_rfl
theorem closed : joinedFacts Tryz.prog 3 Tryz.f3 Rows.fnExactNodNewSpec Rows.fnExactNodNewRow = true := by
  unfold joinedFacts
  rw [j0, j1, j2, j3, j4, j5, j6, j7, j8, j9]
  kernel_rfl
theorem over : Rows.fnExactNodNewRow.holds Tryz.pinned (OpenSpec.ofChange Rows.fnExactNodNewSpec) :=
  OpenClaim.holds_of_wide 3 Tryz.f3 rfl rfl rfl rfl rfl rfl rfl ⟨rfl, rfl, rfl, rfl, rfl⟩ rfl rfl rfl rfl rfl (by kernel_rfl) Tryz.func3 closed
    (of_decide_eq_true (by kernel_rfl)) (by unfold Func.isWrapper; first | (rw [if_pos (by decide +kernel)]; kernel_rfl) | (rw [if_neg (by decide +kernel)]; exact ⟨rfl, rfl⟩))
    (fun os started H enc _ => lifted os started H enc)
theorem proved : Rows.FnExactNodNewSaid := over
end Go.Proofs.YtjlmfcddbcoimaaGreat.fnExactNodNew
namespace Go.Proofs.YtjlmfcddbcoimaaGreat
/-- The row, under a short name, for the claim. -/
theorem fnExactNodNew_holds : Rows.FnExactNodNewSaid := fnExactNodNew.proved
#print axioms fnExactNodNew_holds
end Go.Proofs.YtjlmfcddbcoimaaGreat
