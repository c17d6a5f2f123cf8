/- A byte for a cell, by both texts. -/
import Derived.Test.YtjlmfcddbcoimaaGreatCCopA
import Derived.Test.YtjlmfcddbcoimaaGreatCCopS
import Derived.Test.YtjlmfcddbcoimaaGreatCNodV
set_option maxRecDepth 100000
set_option maxHeartbeats 4000000
set_option linter.unusedSimpArgs false
set_option linter.unusedVariables false
namespace Go.Proofs.YtjlmfcddbcoimaaGreat.C
open Go Go.Av Go.Proofs
open Nat (reduceAdd reduceLT reduceLeDiff reduceSub)
open Int (reduceToNat)
def celIn (c : VCel) (v : Int) : VCel := bif decide (6 ≤ (c.2.1.length : Int)) then c else (c.1, c.2.1 ++ [UInt8.ofNat v.toNat], ())
theorem byt_in (v : Int) (h : byI v = true) : [AV.int .u8 (IntKind.u8.wrap v)] = byt (UInt8.ofNat v.toNat) := by
  unfold byI at h
  simp only [Bool.and_eq_true, decide_eq_true_eq] at h
  rw [(wrap_iff .u8 v).2 (by simp [IntKind.signed, IntKind.bits]; omega)]
  unfold byt
  rw [UInt8.toNat_ofNat']
  have : ((v.toNat % 2 ^ 8 : Nat) : Int) = v := by omega
  rw [this]
theorem TY_celInputI {P : Program} (hP : P = Tryz.prog) : (((zeroT P 151 = some (((.int .i64 0) :: (.nils :: (.nils :: ((.int .i64 0) :: (.nils :: []))))))) ∧ (tyT P 151 = some ((true, 5)))) ∧ ((bldT P 151 = true) ∧ ((fldT P 151 1 = some ((4, (false, 1)))) ∧ (tyT P 149 = some ((false, 1)))))) ∧ (((lkT P 149 = 1) ∧ ((utT P 3 = true) ∧ (intT P 5 = some (.u8)))) ∧ ((lkT P 5 = 0) ∧ ((byT P 3 = false) ∧ (mkT P 149 = some ((1, (1, ((.int .u8 0) :: [])))))))) := by subst hP; refine ⟨⟨⟨?_, ?_⟩, ⟨?_, ⟨?_, ?_⟩⟩⟩, ⟨⟨?_, ⟨?_, ?_⟩⟩, ⟨?_, ⟨?_, ?_⟩⟩⟩⟩ <;> kernel_rfl
theorem celInputI {P : Program} [Known P] (hP : P = Tryz.prog) (c : VCel) (v : Int) (h1 : c.1.2.1.length ≤ 1048576) (h2 : c.1.2.2.1.length ≤ 1048576) (ok : celOkB c = true ∧ byI v = true) : Fun P 195 [.agg (celS c), .int .i64 v] (.tup [.agg (celO (celIn c v)), .bool (decide ((c.2.1.length : Int) < 6))]) := by
  refine fun_of (fn := Tryz.f195) (hP ▸ Tryz.func195) (by kernel_rfl) (by kernel_rfl) (by kernel_rfl) (by kernel_rfl) ?_
  have hT := TY_celInputI hP
  have oc := celOk hP c
  have bv := vmByte hP v
  have cp := celCopyI hP c h1 h2
  clear hP
  intro hl
  clear hl
  simp only [celS, Tryz.f195, hT, eA, Nat.beq, List.toArray, reduceAdd, reduceLT, reduceLeDiff, reduceToNat]
  obtain ⟨ok1, hv⟩ := ok
  have hcl : c.2.1.length ≤ 6 := by
    have h := ok1
    unfold celOkB at h
    simp only [Bool.and_eq_true, decide_eq_true_eq] at h
    omega
  have hbt := byt_in v hv
  simp only [celS, celO] at cp
  simp only [celS] at oc
  rw [ok1] at oc
  rw [hv] at bv
  refine Fun.plain (oc) rfl rfl rfl rfl ?_; simp only [hT, eN, ↓If_lit, Int.reduceLT, Int.reduceLE, eA, Nat.beq, List.toArray, reduceAdd, reduceLT, reduceLeDiff, reduceToNat]; (try unfold lim); repeat first | ((with_reducible refine And.intro ?_ ?_); (first | omega | exact ⟨by omega, by omega⟩ | rfl)) | intro _
  refine Fun.plain (bv) rfl rfl rfl rfl ?_; simp only [hT, eN, ↓If_lit, Int.reduceLT, Int.reduceLE, eA, Nat.beq, List.toArray, reduceAdd, reduceLT, reduceLeDiff, reduceToNat]; (try unfold lim); repeat first | ((with_reducible refine And.intro ?_ ?_); (first | omega | exact ⟨by omega, by omega⟩ | rfl)) | intro _
  refine Fun.plain (cp) rfl rfl rfl rfl ?_; simp only [hT, eN, ↓If_lit, Int.reduceLT, Int.reduceLE, eA, Nat.beq, List.toArray, reduceAdd, reduceLT, reduceLeDiff, reduceToNat]; (try unfold lim); repeat first | ((with_reducible refine And.intro ?_ ?_); (first | omega | exact ⟨by omega, by omega⟩ | rfl)) | intro _
  unfold celIn
  refine If.mk (fun q => ?_) (fun q => ?_)
  · have q6 := q
    rw [q6]
    refine ⟨rfl, ?_, ?_⟩
    · simp only [cond_true, celO, eL, eH, eG, leO, Nat.beq, reduceLT]
    · exact (decide_eq_false (by have := of_decide_eq_true q6; omega)).symm
  · have q6 := q
    rw [q6]
    repeat' first | (with_reducible refine And.intro ?_ ?_) | omega | rfl | intro _
    all_goals first
      | exact (decide_eq_true (by have := of_decide_eq_false q6; omega)).symm
      | (simp only [cond_false, celO, hbt, List.map_append, List.map_cons, List.map_nil, eL, eH, eG, leO, Nat.beq, reduceLT]; done)
      | (simp only [cond_false, celO, hbt, List.map_append, List.map_cons, List.map_nil, eL, eH, eG, leO, Nat.beq, reduceLT]; rfl)
theorem TY_celInputS {P : Program} (hP : P = Tryz.prog) : (((zeroT P 151 = some (((.int .i64 0) :: (.nils :: (.nils :: ((.int .i64 0) :: (.nils :: []))))))) ∧ (tyT P 151 = some ((true, 5)))) ∧ ((bldT P 151 = true) ∧ ((fldT P 151 1 = some ((4, (false, 1)))) ∧ (tyT P 149 = some ((false, 1)))))) ∧ (((lkT P 149 = 1) ∧ ((utT P 3 = true) ∧ (intT P 5 = some (.u8)))) ∧ ((lkT P 5 = 0) ∧ ((byT P 3 = false) ∧ (mkT P 149 = some ((1, (1, ((.int .u8 0) :: [])))))))) := by subst hP; refine ⟨⟨⟨?_, ?_⟩, ⟨?_, ⟨?_, ?_⟩⟩⟩, ⟨⟨?_, ⟨?_, ?_⟩⟩, ⟨?_, ⟨?_, ?_⟩⟩⟩⟩ <;> kernel_rfl
theorem celInputS {P : Program} [Known P] (hP : P = Tryz.prog) (c : VCel) (v : Int) (h1 : c.1.2.1.length ≤ 1048576) (h2 : c.1.2.2.1.length ≤ 1048576) (ok : celOkB c = true ∧ byI v = true) : Fun P 193 [.agg (celS c), .int .i64 v] (.tup [.agg (celO (celIn c v)), .bool (decide ((c.2.1.length : Int) < 6))]) := by
  refine fun_of (fn := Tryz.f193) (hP ▸ Tryz.func193) (by kernel_rfl) (by kernel_rfl) (by kernel_rfl) (by kernel_rfl) ?_
  have hT := TY_celInputS hP
  have oc := celOkS hP c
  have bv := l1In hP v 0 255
  have cp := celCopyS hP c h1 h2
  clear hP
  intro hl
  clear hl
  simp only [celS, Tryz.f193, hT, eA, Nat.beq, List.toArray, reduceAdd, reduceLT, reduceLeDiff, reduceToNat]
  obtain ⟨ok1, hv⟩ := ok
  have hcl : c.2.1.length ≤ 6 := by
    have h := ok1
    unfold celOkB at h
    simp only [Bool.and_eq_true, decide_eq_true_eq] at h
    omega
  have hbt := byt_in v hv
  simp only [celS, celO] at cp
  simp only [celS] at oc
  rw [ok1] at oc
  rw [show (decide (0 ≤ v) && decide (v ≤ 255)) = true from hv] at bv
  refine Fun.plain (oc) rfl rfl rfl rfl ?_; simp only [hT, eN, ↓If_lit, Int.reduceLT, Int.reduceLE, eA, Nat.beq, List.toArray, reduceAdd, reduceLT, reduceLeDiff, reduceToNat]; (try unfold lim); repeat first | ((with_reducible refine And.intro ?_ ?_); (first | omega | exact ⟨by omega, by omega⟩ | rfl)) | intro _
  refine Fun.plain (bv) rfl rfl rfl rfl ?_; simp only [hT, eN, ↓If_lit, Int.reduceLT, Int.reduceLE, eA, Nat.beq, List.toArray, reduceAdd, reduceLT, reduceLeDiff, reduceToNat]; (try unfold lim); repeat first | ((with_reducible refine And.intro ?_ ?_); (first | omega | exact ⟨by omega, by omega⟩ | rfl)) | intro _
  refine Fun.plain (cp) rfl rfl rfl rfl ?_; simp only [hT, eN, ↓If_lit, Int.reduceLT, Int.reduceLE, eA, Nat.beq, List.toArray, reduceAdd, reduceLT, reduceLeDiff, reduceToNat]; (try unfold lim); repeat first | ((with_reducible refine And.intro ?_ ?_); (first | omega | exact ⟨by omega, by omega⟩ | rfl)) | intro _
  unfold celIn
  refine If.mk (fun q => ?_) (fun q => ?_)
  · have q6 : decide (6 ≤ (c.2.1.length : Int)) = true := by simp only [decide_eq_true_eq, decide_eq_false_iff_not] at q ⊢; omega
    rw [q6]
    refine ⟨rfl, ?_, ?_⟩
    · simp only [cond_true, celO, eL, eH, eG, leO, Nat.beq, reduceLT]
    · exact (decide_eq_false (by have := of_decide_eq_true q6; omega)).symm
  · have q6 : decide (6 ≤ (c.2.1.length : Int)) = false := by simp only [decide_eq_true_eq, decide_eq_false_iff_not] at q ⊢; omega
    rw [q6]
    repeat' first | (with_reducible refine And.intro ?_ ?_) | omega | rfl | intro _
    all_goals first
      | exact (decide_eq_true (by have := of_decide_eq_false q6; omega)).symm
      | (simp only [cond_false, celO, hbt, List.map_append, List.map_cons, List.map_nil, eL, eH, eG, leO, Nat.beq, reduceLT]; done)
      | (simp only [cond_false, celO, hbt, List.map_append, List.map_cons, List.map_nil, eL, eH, eG, leO, Nat.beq, reduceLT]; rfl)
end Go.Proofs.YtjlmfcddbcoimaaGreat.C
