/- Labels: whether they are ok, and flow, by both texts. -/
import Derived.Test.YtnhcchmbdkiodaaGreatCIn
import Derived.Test.YtnhcchmbdkiodaaGreatProg
set_option maxRecDepth 100000
set_option linter.unusedSimpArgs false
set_option linter.unusedVariables false
namespace Go.Proofs.YtnhcchmbdkiodaaGreat.C
open Go Go.Av Go.Proofs
abbrev LB (n m : Int) : AV := .agg [.int .i64 n, .int .i64 m]
def lblOk (n m : Int) : Bool := decide (0 ≤ n) && decide (n ≤ 3) && (decide (0 ≤ m) && decide (m ≤ 15))
theorem lblOk_nat {n m : Int} (h : lblOk n m = true) : ∃ a b : Nat, n = a ∧ m = b ∧ a ≤ 3 ∧ b ≤ 15 := by
  unfold lblOk at h
  simp only [Bool.and_eq_true, decide_eq_true_eq] at h
  exact ⟨n.toNat, m.toNat, by omega, by omega, by omega, by omega⟩
theorem TY_toLblLabel {P : Program} (hP : P = Tryz.prog) : ((zeroT P 87 = some (((.int .i64 0) :: ((.int .i64 0) :: [])))) ∧ ((fldT P 76 0 = some ((0, (false, 1)))) ∧ (tyT P 3 = some ((false, 1))))) ∧ (((fldT P 87 0 = some ((0, (false, 1)))) ∧ (fldT P 76 1 = some ((1, (false, 1))))) ∧ ((fldT P 87 1 = some ((1, (false, 1)))) ∧ (tyT P 87 = some ((true, 2))))) := by subst hP; refine ⟨⟨?_, ⟨?_, ?_⟩⟩, ⟨⟨?_, ?_⟩, ⟨?_, ?_⟩⟩⟩ <;> kernel_rfl
theorem toLblLabel {P : Program} [Known P] (hP : P = Tryz.prog) (n m : Int) : Fun P 93 [LB n m] (LB n m) := by
  refine fun_of (fn := Tryz.f93) (hP ▸ Tryz.func93) (by kernel_rfl) (by kernel_rfl) (by kernel_rfl) (by kernel_rfl) ?_
  have hT := TY_toLblLabel hP
  clear hP
  intro hl
  clear hl
  simp only [Tryz.f93, hT, eE, bytB, boo, eqK, isC, convK, fitsK, inst, instV, instC, instT, argTm, wpcE, SeqE, BlkE, RndE, wopsE, RetE, RetXE, RetRE, RetGE, resR, stp, bin, binI, numK, dstOf, St.ev, St.put, gtm, geth, seth, setAll, setRow, srcW, bndW, bldW, rowsW, setC, rdR, rdL, remh, Nat.beq, ofVal, resW, absC, pkR, selH, List.headD, List.toArray, AV.cells?, AV.nb, Nat.reduceAdd, Nat.reduceLT, Nat.reduceLeDiff, List.drop, List.take, puL, AV.pu, packT, List.set, List.all, AV.one, npL, AV.np, sub, subL, Int.reduceToNat]
theorem TY_lblOkS {P : Program} (hP : P = Tryz.prog) : (fldT P 87 0 = some ((0, (false, 1)))) ∧ ((tyT P 3 = some ((false, 1))) ∧ (fldT P 87 1 = some ((1, (false, 1))))) := by subst hP; refine ⟨?_, ⟨?_, ?_⟩⟩ <;> kernel_rfl
theorem levelOk {P : Program} [Known P] (hP : P = Tryz.prog) (n : Int) : Fun P 120 [.int .i64 n] (.bool (decide (0 ≤ n) && decide (n ≤ 3))) := by
  refine fun_of (fn := Tryz.f120) (hP ▸ Tryz.func120) (by kernel_rfl) (by kernel_rfl) (by kernel_rfl) (by kernel_rfl) ?_
  have hT := TY_lblOkS hP
  clear hP
  intro hl
  clear hl
  simp only [Tryz.f120, hT, eE, bytB, boo, eqK, isC, convK, fitsK, inst, instV, instC, instT, argTm, wpcE, SeqE, BlkE, RndE, wopsE, RetE, RetXE, RetRE, RetGE, resR, stp, bin, binI, numK, dstOf, St.ev, St.put, gtm, geth, seth, setAll, setRow, srcW, bndW, bldW, rowsW, setC, rdR, rdL, remh, Nat.beq, ofVal, resW, absC, pkR, selH, List.headD, List.toArray, AV.cells?, AV.nb, Nat.reduceAdd, Nat.reduceLT, Nat.reduceLeDiff, List.drop, List.take, puL, AV.pu, packT, List.set, List.all, AV.one, npL, AV.np, sub, subL, Int.reduceToNat]
  exact ⟨fun q => by rw [q]; rfl, fun q => by rw [q]; rfl⟩
theorem marksOk {P : Program} [Known P] (hP : P = Tryz.prog) (n : Int) : Fun P 121 [.int .i64 n] (.bool (decide (0 ≤ n) && decide (n ≤ 15))) := by
  refine fun_of (fn := Tryz.f121) (hP ▸ Tryz.func121) (by kernel_rfl) (by kernel_rfl) (by kernel_rfl) (by kernel_rfl) ?_
  have hT := TY_lblOkS hP
  clear hP
  intro hl
  clear hl
  simp only [Tryz.f121, hT, eE, bytB, boo, eqK, isC, convK, fitsK, inst, instV, instC, instT, argTm, wpcE, SeqE, BlkE, RndE, wopsE, RetE, RetXE, RetRE, RetGE, resR, stp, bin, binI, numK, dstOf, St.ev, St.put, gtm, geth, seth, setAll, setRow, srcW, bndW, bldW, rowsW, setC, rdR, rdL, remh, Nat.beq, ofVal, resW, absC, pkR, selH, List.headD, List.toArray, AV.cells?, AV.nb, Nat.reduceAdd, Nat.reduceLT, Nat.reduceLeDiff, List.drop, List.take, puL, AV.pu, packT, List.set, List.all, AV.one, npL, AV.np, sub, subL, Int.reduceToNat]
  exact ⟨fun q => by rw [q]; rfl, fun q => by rw [q]; rfl⟩
theorem lblOkI {P : Program} [Known P] (hP : P = Tryz.prog) (n m : Int) : Fun P 99 [LB n m] (.bool (lblOk n m)) := by
  refine fun_of (fn := Tryz.f99) (hP ▸ Tryz.func99) (by kernel_rfl) (by kernel_rfl) (by kernel_rfl) (by kernel_rfl) ?_
  have hT := TY_lblOkS hP
  have lo := levelOk hP n
  have mo := marksOk hP m
  clear hP
  intro hl
  clear hl
  simp only [Tryz.f99, hT, eE, bytB, boo, eqK, isC, convK, fitsK, inst, instV, instC, instT, argTm, wpcE, SeqE, BlkE, RndE, wopsE, RetE, RetXE, RetRE, RetGE, resR, stp, bin, binI, numK, dstOf, St.ev, St.put, gtm, geth, seth, setAll, setRow, srcW, bndW, bldW, rowsW, setC, rdR, rdL, remh, Nat.beq, ofVal, resW, absC, pkR, selH, List.headD, List.toArray, AV.cells?, AV.nb, Nat.reduceAdd, Nat.reduceLT, Nat.reduceLeDiff, List.drop, List.take, puL, AV.pu, packT, List.set, List.all, AV.one, npL, AV.np, sub, subL, Int.reduceToNat]
  refine Fun.plain (lo) rfl rfl rfl rfl ?_; simp only [hT, nneg, beq_self_eq_true, decide_true, decide_false, ↓If_lit, Int.cast_ofNat_Int, Int.reduceLT, Int.reduceLE, eE, bytB, boo, eqK, isC, convK, fitsK, inst, instV, instC, instT, argTm, wpcE, SeqE, BlkE, RndE, wopsE, RetE, RetXE, RetRE, RetGE, resR, stp, bin, binI, numK, dstOf, St.ev, St.put, gtm, geth, seth, setAll, setRow, srcW, bndW, bldW, rowsW, setC, rdR, rdL, remh, Nat.beq, ofVal, resW, absC, pkR, selH, List.headD, List.toArray, AV.cells?, AV.nb, Nat.reduceAdd, Nat.reduceLT, Nat.reduceLeDiff, List.drop, List.take, puL, AV.pu, packT, List.set, List.all, AV.one, npL, AV.np, sub, subL, Int.reduceToNat]; (try unfold lim); repeat first | ((with_reducible refine And.intro ?_ ?_); (first | omega | exact ⟨by omega, by omega⟩ | rfl)) | intro _
  refine ⟨fun q => ?_, fun q => by unfold lblOk; rw [q]; rfl⟩
  refine Fun.plain (mo) rfl rfl rfl rfl ?_; simp only [hT, nneg, beq_self_eq_true, decide_true, decide_false, ↓If_lit, Int.cast_ofNat_Int, Int.reduceLT, Int.reduceLE, eE, bytB, boo, eqK, isC, convK, fitsK, inst, instV, instC, instT, argTm, wpcE, SeqE, BlkE, RndE, wopsE, RetE, RetXE, RetRE, RetGE, resR, stp, bin, binI, numK, dstOf, St.ev, St.put, gtm, geth, seth, setAll, setRow, srcW, bndW, bldW, rowsW, setC, rdR, rdL, remh, Nat.beq, ofVal, resW, absC, pkR, selH, List.headD, List.toArray, AV.cells?, AV.nb, Nat.reduceAdd, Nat.reduceLT, Nat.reduceLeDiff, List.drop, List.take, puL, AV.pu, packT, List.set, List.all, AV.one, npL, AV.np, sub, subL, Int.reduceToNat]; (try unfold lim); repeat first | ((with_reducible refine And.intro ?_ ?_); (first | omega | exact ⟨by omega, by omega⟩ | rfl)) | intro _
  unfold lblOk
  rw [q]; rfl
theorem lblOkS {P : Program} [Known P] (hP : P = Tryz.prog) (n m : Int) : Fun P 115 [LB n m] (.bool (lblOk n m)) := by
  refine fun_of (fn := Tryz.f115) (hP ▸ Tryz.func115) (by kernel_rfl) (by kernel_rfl) (by kernel_rfl) (by kernel_rfl) ?_
  have hT := TY_lblOkS hP
  have l1 := fun a b c => (l1In hP a b c : _)
  clear hP
  intro hl
  clear hl
  simp only [Tryz.f115, hT, eE, bytB, boo, eqK, isC, convK, fitsK, inst, instV, instC, instT, argTm, wpcE, SeqE, BlkE, RndE, wopsE, RetE, RetXE, RetRE, RetGE, resR, stp, bin, binI, numK, dstOf, St.ev, St.put, gtm, geth, seth, setAll, setRow, srcW, bndW, bldW, rowsW, setC, rdR, rdL, remh, Nat.beq, ofVal, resW, absC, pkR, selH, List.headD, List.toArray, AV.cells?, AV.nb, Nat.reduceAdd, Nat.reduceLT, Nat.reduceLeDiff, List.drop, List.take, puL, AV.pu, packT, List.set, List.all, AV.one, npL, AV.np, sub, subL, Int.reduceToNat]
  refine Fun.plain (l1 n 0 3) rfl rfl rfl rfl ?_; simp only [hT, nneg, beq_self_eq_true, decide_true, decide_false, ↓If_lit, Int.cast_ofNat_Int, Int.reduceLT, Int.reduceLE, eE, bytB, boo, eqK, isC, convK, fitsK, inst, instV, instC, instT, argTm, wpcE, SeqE, BlkE, RndE, wopsE, RetE, RetXE, RetRE, RetGE, resR, stp, bin, binI, numK, dstOf, St.ev, St.put, gtm, geth, seth, setAll, setRow, srcW, bndW, bldW, rowsW, setC, rdR, rdL, remh, Nat.beq, ofVal, resW, absC, pkR, selH, List.headD, List.toArray, AV.cells?, AV.nb, Nat.reduceAdd, Nat.reduceLT, Nat.reduceLeDiff, List.drop, List.take, puL, AV.pu, packT, List.set, List.all, AV.one, npL, AV.np, sub, subL, Int.reduceToNat]; (try unfold lim); repeat first | ((with_reducible refine And.intro ?_ ?_); (first | omega | exact ⟨by omega, by omega⟩ | rfl)) | intro _
  refine ⟨fun q => ?_, fun q => by unfold lblOk; rw [q]; rfl⟩
  refine Fun.plain (l1 m 0 15) rfl rfl rfl rfl ?_; simp only [hT, nneg, beq_self_eq_true, decide_true, decide_false, ↓If_lit, Int.cast_ofNat_Int, Int.reduceLT, Int.reduceLE, eE, bytB, boo, eqK, isC, convK, fitsK, inst, instV, instC, instT, argTm, wpcE, SeqE, BlkE, RndE, wopsE, RetE, RetXE, RetRE, RetGE, resR, stp, bin, binI, numK, dstOf, St.ev, St.put, gtm, geth, seth, setAll, setRow, srcW, bndW, bldW, rowsW, setC, rdR, rdL, remh, Nat.beq, ofVal, resW, absC, pkR, selH, List.headD, List.toArray, AV.cells?, AV.nb, Nat.reduceAdd, Nat.reduceLT, Nat.reduceLeDiff, List.drop, List.take, puL, AV.pu, packT, List.set, List.all, AV.one, npL, AV.np, sub, subL, Int.reduceToNat]; (try unfold lim); repeat first | ((with_reducible refine And.intro ?_ ?_); (first | omega | exact ⟨by omega, by omega⟩ | rfl)) | intro _
  unfold lblOk
  rw [q]; rfl
def lblFl (a b c d : Int) : Bool := lblOk a b && (lblOk c d && (decide (a ≤ c) && decide (bitK .or .i64 b d = d)))
end Go.Proofs.YtnhcchmbdkiodaaGreat.C
