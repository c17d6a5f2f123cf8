/- A node that falls, by both texts. -/
import Derived.Test.YtjlmfcddbcoimaaGreatCNodK
import Derived.Test.YtjlmfcddbcoimaaGreatCNodF
set_option maxRecDepth 100000
set_option maxHeartbeats 4000000
set_option linter.unusedSimpArgs false
set_option linter.unusedVariables false
namespace Go.Proofs.YtjlmfcddbcoimaaGreat.C
open Go Go.Av Go.Proofs
def fallN (p : VPln) (n : VNod) (a : Int) : VNod := bif okN p n a then begN p n.boot else nod0
theorem TY_nodFallI {P : Program} (hP : P = Tryz.prog) : ((zeroT P 37 = some (((.bool false) :: ((.int .i64 0) :: ((.int .i64 0) :: (.nils :: (.nils :: (.nils :: (.nils :: (.nils :: (.nils :: (.nils :: [])))))))))))) ∧ ((tyT P 43 = some ((true, 7))) ∧ (tyT P 37 = some ((true, 10))))) ∧ ((bldT P 37 = true) ∧ ((fldT P 37 1 = some ((1, (false, 1)))) ∧ (tyT P 3 = some ((false, 1))))) := by subst hP; refine ⟨⟨?_, ⟨?_, ?_⟩⟩, ⟨?_, ⟨?_, ?_⟩⟩⟩ <;> kernel_rfl
theorem nodFallI {P : Program} [Known P] (hP : P = Tryz.prog) (p : VPln) (hs : Sz p) (n : VNod) (hn : SzN n) (a : Int) : Fun P 29 [.agg (plnS p), .agg (nodS n), .int .i64 a] (.agg (nodO (fallN p n a))) := by
  refine fun_of (fn := Tryz.f29) (hP ▸ Tryz.func29) (by kernel_rfl) (by kernel_rfl) (by kernel_rfl) (by kernel_rfl) ?_
  have hT := TY_nodFallI hP
  have oi := nodOkI hP p hs n hn a
  have bg := nodBegin hP p hs n.boot
  clear hP
  intro hl
  clear hl
  simp only [plnS, nodS] at oi
  simp only [plnS, nodO] at bg
  simp only [plnS, nodS, Tryz.f29, hT, eA, Nat.beq, List.toArray, Nat.reduceAdd, Nat.reduceLT, Nat.reduceLeDiff, Int.reduceToNat]
  unfold fallN
  refine Fun.plain (oi) rfl rfl rfl rfl ?_; simp only [hT, nneg, beq_self_eq_true, decide_true, decide_false, ↓If_lit, Int.cast_ofNat_Int, Int.reduceLT, Int.reduceLE, eA, Nat.beq, List.toArray, Nat.reduceAdd, Nat.reduceLT, Nat.reduceLeDiff, Int.reduceToNat]; (try unfold lim); repeat first | ((with_reducible refine And.intro ?_ ?_); (first | omega | exact ⟨by omega, by omega⟩ | rfl)) | intro _
  refine ⟨fun q => ?_, fun q => ?_⟩
  · have q : okN p n a = false := by simpa using q
    rw [q]
    exact nod0_sub
  · have q : okN p n a = true := by simpa using q
    rw [q]
    simp only [cond_true]
    refine Fun.lent bg (by rfl) (by rfl) rfl rfl (nod_na _) ?_; simp only [hT, nneg, beq_self_eq_true, decide_true, decide_false, ↓If_lit, Int.cast_ofNat_Int, Int.reduceLT, Int.reduceLE, eA, Nat.beq, List.toArray, Nat.reduceAdd, Nat.reduceLT, Nat.reduceLeDiff, Int.reduceToNat]; (try unfold lim); repeat first | ((with_reducible refine And.intro ?_ ?_); (first | omega | exact ⟨by omega, by omega⟩ | rfl)) | intro _
    exact nod_sub _
theorem TY_nodFallS {P : Program} (hP : P = Tryz.prog) : ((zeroT P 37 = some (((.bool false) :: ((.int .i64 0) :: ((.int .i64 0) :: (.nils :: (.nils :: (.nils :: (.nils :: (.nils :: (.nils :: (.nils :: [])))))))))))) ∧ ((tyT P 43 = some ((true, 7))) ∧ (tyT P 37 = some ((true, 10))))) ∧ ((bldT P 37 = true) ∧ ((fldT P 37 1 = some ((1, (false, 1)))) ∧ (tyT P 3 = some ((false, 1))))) := by subst hP; refine ⟨⟨?_, ⟨?_, ?_⟩⟩, ⟨?_, ⟨?_, ?_⟩⟩⟩ <;> kernel_rfl
theorem nodFallS {P : Program} [Known P] (hP : P = Tryz.prog) (p : VPln) (hs : Sz p) (n : VNod) (hn : SzN n) (a : Int) : Fun P 28 [.agg (plnS p), .agg (nodS n), .int .i64 a] (.agg (nodO (fallN p n a))) := by
  refine fun_of (fn := Tryz.f28) (hP ▸ Tryz.func28) (by kernel_rfl) (by kernel_rfl) (by kernel_rfl) (by kernel_rfl) ?_
  have hT := TY_nodFallS hP
  have oi := nodOkS hP p hs n hn a
  have bg := blankS hP p hs n.boot
  clear hP
  intro hl
  clear hl
  simp only [plnS, nodS] at oi
  simp only [plnS, nodO] at bg
  simp only [plnS, nodS, Tryz.f28, hT, eA, Nat.beq, List.toArray, Nat.reduceAdd, Nat.reduceLT, Nat.reduceLeDiff, Int.reduceToNat]
  unfold fallN
  refine Fun.plain (oi) rfl rfl rfl rfl ?_; simp only [hT, nneg, beq_self_eq_true, decide_true, decide_false, ↓If_lit, Int.cast_ofNat_Int, Int.reduceLT, Int.reduceLE, eA, Nat.beq, List.toArray, Nat.reduceAdd, Nat.reduceLT, Nat.reduceLeDiff, Int.reduceToNat]; (try unfold lim); repeat first | ((with_reducible refine And.intro ?_ ?_); (first | omega | exact ⟨by omega, by omega⟩ | rfl)) | intro _
  refine ⟨fun q => ?_, fun q => ?_⟩
  · have q : okN p n a = false := by simpa using q
    rw [q]
    exact nod0_sub
  · have q : okN p n a = true := by simpa using q
    rw [q]
    simp only [cond_true]
    refine Fun.plain (bg) rfl rfl rfl rfl ?_; simp only [hT, nneg, beq_self_eq_true, decide_true, decide_false, ↓If_lit, Int.cast_ofNat_Int, Int.reduceLT, Int.reduceLE, eA, Nat.beq, List.toArray, Nat.reduceAdd, Nat.reduceLT, Nat.reduceLeDiff, Int.reduceToNat]; (try unfold lim); repeat first | ((with_reducible refine And.intro ?_ ?_); (first | omega | exact ⟨by omega, by omega⟩ | rfl)) | intro _
    exact nod_sub _
end Go.Proofs.YtjlmfcddbcoimaaGreat.C
