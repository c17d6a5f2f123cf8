/- Whether a node is ok, by both texts. -/
import Derived.Test.YtjlmfcddbcoimaaGreatCNodU
import Derived.Test.YtjlmfcddbcoimaaGreatCNodY
set_option maxRecDepth 100000
set_option maxHeartbeats 4000000
set_option linter.unusedSimpArgs false
set_option linter.unusedVariables false
namespace Go.Proofs.YtjlmfcddbcoimaaGreat.C
open Go Go.Av Go.Proofs
open Nat (reduceAdd reduceLT reduceLeDiff reduceSub)
open Int (reduceToNat)
theorem TY_nodOkI {P : Program} (hP : P = Tryz.prog) : tyT P 43 = some ((true, 7)) := by subst hP; kernel_rfl
theorem nodOkI {P : Program} [Known P] (hP : P = Tryz.prog) (p : VPln) (hs : Sz p) (n : VNod) (hn : SzN n) (a : Int) : Fun P 25 [.agg (plnS p), .agg (nodS n), .int .i64 a] (.bool (okN p n a)) := by
  refine fun_of (fn := Tryz.f25) (hP ▸ Tryz.func25) (by kernel_rfl) (by kernel_rfl) (by kernel_rfl) (by kernel_rfl) ?_
  have hT := TY_nodOkI hP
  have oi := plnOkI hP p hs
  have gd := fun h => goodI hP p hs h n hn a
  clear hP
  intro hl
  clear hl
  simp only [plnS, nodS, Tryz.f25, hT, eA, Nat.beq, List.toArray, reduceAdd, reduceLT, reduceLeDiff, reduceToNat]
  simp only [plnS] at oi
  refine Fun.plain (oi) rfl rfl rfl rfl ?_; simp only [hT, eN, ↓If_lit, Int.reduceLT, Int.reduceLE, eA, Nat.beq, List.toArray, reduceAdd, reduceLT, reduceLeDiff, reduceToNat]; (try unfold lim); repeat first | ((with_reducible refine And.intro ?_ ?_); (first | omega | exact ⟨by omega, by omega⟩ | rfl)) | intro _
  unfold okN
  refine If.mk (fun q => ?_) (fun q => ?_)
  · have hr : res p = none := by simpa using q
    have gd := gd hr
    simp only [plnS, nodS] at gd
    rw [q, Bool.true_and]
    refine Fun.lent gd (by rfl) (by rfl) rfl rfl rfl ?_
    simp only [hT, eN, ↓If_lit, Int.reduceLT, Int.reduceLE, eA, Nat.beq, List.toArray, reduceAdd, reduceLT, reduceLeDiff, reduceToNat]; (try unfold lim); repeat first | ((with_reducible refine And.intro ?_ ?_); (first | omega | exact ⟨by omega, by omega⟩ | rfl)) | intro _
  · rw [q]; rfl
theorem TY_nodOkS {P : Program} (hP : P = Tryz.prog) : ((tyT P 43 = some ((true, 7))) ∧ (fldT P 43 0 = some ((0, (false, 1))))) ∧ ((tyT P 3 = some ((false, 1))) ∧ (tyT P 37 = some ((true, 10)))) := by subst hP; refine ⟨⟨?_, ?_⟩, ⟨?_, ?_⟩⟩ <;> kernel_rfl
theorem nodOkS {P : Program} [Known P] (hP : P = Tryz.prog) (p : VPln) (hs : Sz p) (n : VNod) (hn : SzN n) (a : Int) : Fun P 23 [.agg (plnS p), .agg (nodS n), .int .i64 a] (.bool (okN p n a)) := by
  refine fun_of (fn := Tryz.f23) (hP ▸ Tryz.func23) (by kernel_rfl) (by kernel_rfl) (by kernel_rfl) (by kernel_rfl) ?_
  have hT := TY_nodOkS hP
  have oi := plnOkS hP p hs
  have hh := l1h hP a p.1
  have gd := fun h h2 => okS hP p hs h n hn a h2
  clear hP
  intro hl
  clear hl
  simp only [plnS, nodS, Tryz.f23, hT, eA, Nat.beq, List.toArray, reduceAdd, reduceLT, reduceLeDiff, reduceToNat]
  simp only [plnS] at oi
  simp only [plnS, nodS] at gd
  unfold okN
  refine Fun.plain (oi) rfl rfl rfl rfl ?_; simp only [hT, eN, ↓If_lit, Int.reduceLT, Int.reduceLE, eA, Nat.beq, List.toArray, reduceAdd, reduceLT, reduceLeDiff, reduceToNat]; (try unfold lim); repeat first | ((with_reducible refine And.intro ?_ ?_); (first | omega | exact ⟨by omega, by omega⟩ | rfl)) | intro _
  refine If.mk (fun q => ?_) (fun q => ?_)
  · have hr : res p = none := by simpa using q
    have gd := gd hr
    have hn := nodesOf hr
    rw [q, Bool.true_and]
    (try unfold lim); repeat first | ((with_reducible refine And.intro ?_ ?_); (first | omega | exact ⟨by omega, by omega⟩ | rfl)) | intro _
    refine Fun.plain (hh) rfl rfl rfl rfl ?_; simp only [hT, eN, ↓If_lit, Int.reduceLT, Int.reduceLE, eA, Nat.beq, List.toArray, reduceAdd, reduceLT, reduceLeDiff, reduceToNat]; (try unfold lim); repeat first | ((with_reducible refine And.intro ?_ ?_); (first | omega | exact ⟨by omega, by omega⟩ | rfl)) | intro _
    refine If.mk (fun q1 => ?_) (fun q1 => ?_)
    · have gd := gd q1
      rw [q1, Bool.true_and]
      refine Fun.plain (gd) rfl rfl rfl rfl ?_; simp only [hT, eN, ↓If_lit, Int.reduceLT, Int.reduceLE, eA, Nat.beq, List.toArray, reduceAdd, reduceLT, reduceLeDiff, reduceToNat]; (try unfold lim); repeat first | ((with_reducible refine And.intro ?_ ?_); (first | omega | exact ⟨by omega, by omega⟩ | rfl)) | intro _
    · rw [q1]; rfl
  · rw [q]; rfl
end Go.Proofs.YtjlmfcddbcoimaaGreat.C
