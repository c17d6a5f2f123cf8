/- Whether sights are ok, by both texts. -/
import Derived.Test.YtjlmfcddbcoimaaGreatCOneB
import Derived.Test.YtjlmfcddbcoimaaGreatCNodV
set_option maxRecDepth 100000
set_option maxHeartbeats 4000000
set_option linter.unusedSimpArgs false
set_option linter.unusedVariables false
namespace Go.Proofs.YtjlmfcddbcoimaaGreat.C
open Go Go.Av Go.Proofs
def kindAV (s : VSig) : AV := bif decide (1 ≤ s.1) && decide (s.1 ≤ 4) then .iface 294 (.agg [.int .i64 s.2.1, B s.2.2.1]) else bif decide (5 ≤ s.1) && decide (s.1 ≤ 10) then .iface 296 (.agg [.int .i64 s.2.1, B s.2.2.1]) else .nilif
theorem TY_byKind {P : Program} (hP : P = Tryz.prog) : (((fldT P 249 0 = some ((0, (false, 1)))) ∧ ((tyT P 3 = some ((false, 1))) ∧ (fldT P 249 1 = some ((1, (false, 1)))))) ∧ (((fldT P 249 2 = some ((2, (false, 1)))) ∧ (tyT P 149 = some ((false, 1)))) ∧ ((zeroT P 294 = some (((.int .i64 0) :: (.nils :: [])))) ∧ (bldT P 294 = true)))) ∧ ((((plT P 294 0 = some ((0, 1))) ∧ (plT P 294 1 = some ((1, 1)))) ∧ ((ncT P 294 = true) ∧ (zeroT P 296 = some (((.int .i64 0) :: (.nils :: [])))))) ∧ (((bldT P 296 = true) ∧ (plT P 296 0 = some ((0, 1)))) ∧ ((plT P 296 1 = some ((1, 1))) ∧ (ncT P 296 = true)))) := by subst hP; refine ⟨⟨⟨?_, ⟨?_, ?_⟩⟩, ⟨⟨?_, ?_⟩, ⟨?_, ?_⟩⟩⟩, ⟨⟨⟨?_, ?_⟩, ⟨?_, ?_⟩⟩, ⟨⟨?_, ?_⟩, ⟨?_, ?_⟩⟩⟩⟩ <;> kernel_rfl
theorem byKind {P : Program} [Known P] (hP : P = Tryz.prog) (s : VSig) : Fun P 272 [.agg (sigS s)] (kindAV s) := by
  refine fun_of (fn := Tryz.f272) (hP ▸ Tryz.func272) (by kernel_rfl) (by kernel_rfl) (by kernel_rfl) (by kernel_rfl) ?_
  have hT := TY_byKind hP
  clear hP
  intro hl
  clear hl
  simp only [sigS, Tryz.f272, hT, eA, Nat.beq, List.toArray, Nat.reduceAdd, Nat.reduceLT, Nat.reduceLeDiff, Int.reduceToNat]
  unfold kindAV
  cases h1 : decide (1 ≤ s.1) <;> cases h4 : decide (s.1 ≤ 4) <;> cases h5 : decide (5 ≤ s.1) <;> cases h10 : decide (s.1 ≤ 10)
  all_goals (repeat' first | (refine If.mk (fun q => ?_) (fun q => ?_)) | (with_reducible refine And.intro ?_ ?_))
  all_goals first | rfl | (exact absurd q (by decide)) | trivial | (simp_all; done)
theorem TY_wayBytes {P : Program} (hP : P = Tryz.prog) : (fldT P 294 1 = some ((1, (false, 1)))) ∧ (tyT P 149 = some ((false, 1))) := by subst hP; refine ⟨?_, ?_⟩ <;> kernel_rfl
theorem wayBytes {P : Program} [Known P] (hP : P = Tryz.prog) (w : Int) (m : List UInt8) : Fun P 342 [.agg [.int .i64 w, B m]] (B m) := by
  refine fun_of (fn := Tryz.f342) (hP ▸ Tryz.func342) (by kernel_rfl) (by kernel_rfl) (by kernel_rfl) (by kernel_rfl) ?_
  have hT := TY_wayBytes hP
  clear hP
  intro hl
  clear hl
  simp only [Tryz.f342, hT, eA, Nat.beq, List.toArray, Nat.reduceAdd, Nat.reduceLT, Nat.reduceLeDiff, Int.reduceToNat]
theorem TY_noneBytes {P : Program} (hP : P = Tryz.prog) : (fldT P 296 1 = some ((1, (false, 1)))) ∧ (tyT P 149 = some ((false, 1))) := by subst hP; refine ⟨?_, ?_⟩ <;> kernel_rfl
theorem noneBytes {P : Program} [Known P] (hP : P = Tryz.prog) (w : Int) (m : List UInt8) : Fun P 343 [.agg [.int .i64 w, B m]] (B m) := by
  refine fun_of (fn := Tryz.f343) (hP ▸ Tryz.func343) (by kernel_rfl) (by kernel_rfl) (by kernel_rfl) (by kernel_rfl) ?_
  have hT := TY_noneBytes hP
  clear hP
  intro hl
  clear hl
  simp only [Tryz.f343, hT, eA, Nat.beq, List.toArray, Nat.reduceAdd, Nat.reduceLT, Nat.reduceLeDiff, Int.reduceToNat]
end Go.Proofs.YtjlmfcddbcoimaaGreat.C
