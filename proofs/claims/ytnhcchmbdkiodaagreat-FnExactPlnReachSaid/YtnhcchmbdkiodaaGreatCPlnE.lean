/- Plans that are the same: the laws see it. -/
import Derived.Test.YtnhcchmbdkiodaaGreatCPlnA
set_option maxRecDepth 100000
set_option linter.unusedSimpArgs false
set_option linter.unusedVariables false
namespace Go.Proofs.YtnhcchmbdkiodaaGreat.C
open Go Go.Av Go.Proofs
theorem TY_eqLblLabel {P : Program} (hP : P = Tryz.prog) : (fldT P 87 0 = some ((0, (false, 1)))) ∧ ((tyT P 3 = some ((false, 1))) ∧ (fldT P 87 1 = some ((1, (false, 1))))) := by subst hP; refine ⟨?_, ⟨?_, ?_⟩⟩ <;> kernel_rfl
theorem eqLblLabel {P : Program} [Known P] (hP : P = Tryz.prog) (x : VLbl) : Fun P 112 [.agg ((fun x : VLbl => [AV.int .i64 x.1, AV.int .i64 x.2.1]) x), .agg ((fun x : VLbl => [AV.int .i64 x.1, AV.int .i64 x.2.1]) x)] (.bool true) := by
  refine fun_of (fn := Tryz.f112) (hP ▸ Tryz.func112) (by kernel_rfl) (by kernel_rfl) (by kernel_rfl) (by kernel_rfl) ?_
  have hT := TY_eqLblLabel hP
  clear hP
  intro hl
  clear hl
  simp only [Tryz.f112, hT, eq_self, decide_true, beq_self_eq_true, If_lit, eE, bytB, boo, eqK, isC, convK, fitsK, inst, instV, instC, instT, argTm, wpcE, SeqE, BlkE, RndE, wopsE, RetE, RetXE, RetRE, RetGE, resR, stp, bin, binI, numK, dstOf, St.ev, St.put, gtm, geth, seth, setAll, setRow, srcW, bndW, bldW, rowsW, setC, rdR, rdL, remh, Nat.beq, ofVal, resW, absC, pkR, selH, List.headD, List.toArray, AV.cells?, AV.nb, Nat.reduceAdd, Nat.reduceLT, Nat.reduceLeDiff, List.drop, List.take, puL, AV.pu, packT, List.set, List.all, AV.one, npL, AV.np, sub, subL, Int.reduceToNat]
theorem TY_eqVmOrder {P : Program} (hP : P = Tryz.prog) : ((fldT P 128 0 = some ((0, (false, 1)))) ∧ (tyT P 3 = some ((false, 1)))) ∧ ((fldT P 128 1 = some ((1, (false, 1)))) ∧ ((fldT P 128 2 = some ((2, (false, 1)))) ∧ (fldT P 128 3 = some ((3, (false, 1)))))) := by subst hP; refine ⟨⟨?_, ?_⟩, ⟨?_, ⟨?_, ?_⟩⟩⟩ <;> kernel_rfl
theorem eqVmOrder {P : Program} [Known P] (hP : P = Tryz.prog) (x : VOrd) : Fun P 125 [.agg (ordE x), .agg (ordE x)] (.bool true) := by
  refine fun_of (fn := Tryz.f125) (hP ▸ Tryz.func125) (by kernel_rfl) (by kernel_rfl) (by kernel_rfl) (by kernel_rfl) ?_
  have hT := TY_eqVmOrder hP
  clear hP
  intro hl
  clear hl
  simp only [ordE, Tryz.f125, hT, eq_self, decide_true, beq_self_eq_true, If_lit, eE, bytB, boo, eqK, isC, convK, fitsK, inst, instV, instC, instT, argTm, wpcE, SeqE, BlkE, RndE, wopsE, RetE, RetXE, RetRE, RetGE, resR, stp, bin, binI, numK, dstOf, St.ev, St.put, gtm, geth, seth, setAll, setRow, srcW, bndW, bldW, rowsW, setC, rdR, rdL, remh, Nat.beq, ofVal, resW, absC, pkR, selH, List.headD, List.toArray, AV.cells?, AV.nb, Nat.reduceAdd, Nat.reduceLT, Nat.reduceLeDiff, List.drop, List.take, puL, AV.pu, packT, List.set, List.all, AV.one, npL, AV.np, sub, subL, Int.reduceToNat]
theorem TY_eqVmOrderS {P : Program} (hP : P = Tryz.prog) : ((P.follows .mixedOrders = true) ∧ (lkT P 88 = 1)) ∧ ((elT P 88 = some ((true, (4, 32)))) ∧ (tyT P 128 = some ((true, 4)))) := by subst hP; refine ⟨⟨?_, ?_⟩, ⟨?_, ?_⟩⟩ <;> kernel_rfl
theorem eqVmOrderS {P : Program} [Known P] (hP : P = Tryz.prog) (l : List (VOrd)) : Fun P 113 [.sl 4 (l.map ordE) oZ, .sl 4 (l.map ordE) oZ] (.bool true) := by
  refine fun_of (fn := Tryz.f113) (hP ▸ Tryz.func113) (by kernel_rfl) (by kernel_rfl) (by kernel_rfl) (by kernel_rfl) ?_
  have hT := TY_eqVmOrderS hP
  have hm : P.follows .mixedOrders = true := by subst hP; kernel_rfl
  have el := @eqVmOrder P _ hP
  clear hP
  intro hl
  simp only [limL, limA, and_true, List.length_map] at hl
  simp only [Tryz.f113, hT, eq_self, decide_true, If_lit, eE, bytB, boo, eqK, isC, convK, fitsK, inst, instV, instC, instT, argTm, wpcE, SeqE, BlkE, RndE, wopsE, RetE, RetXE, RetRE, RetGE, resR, stp, bin, binI, numK, dstOf, St.ev, St.put, gtm, geth, seth, setAll, setRow, srcW, bndW, bldW, rowsW, setC, rdR, rdL, remh, Nat.beq, ofVal, resW, absC, pkR, selH, List.headD, List.toArray, AV.cells?, AV.nb, Nat.reduceAdd, Nat.reduceLT, Nat.reduceLeDiff, List.drop, List.take, puL, AV.pu, packT, List.set, List.all, AV.one, npL, AV.np, sub, subL, Int.reduceToNat]
  unfold lim at hl
  have hl' := hl
  (try unfold lim); repeat first | ((with_reducible refine And.intro ?_ ?_); (first | omega | exact ⟨by omega, by omega⟩ | rfl)) | intro _
  refine wpc_loop {i : Nat // i ≤ l.length} (fun i => ⟨[(0, .sl 4 (l.map ordE) oZ), (1, .sl 4 (l.map ordE) oZ), (5, .int .i64 i.1)], [], 0⟩) (fun i => l.length - i.1) ⟨0, Nat.zero_le _⟩ (Le.of [] (Nat.zero_le _) ?_ ?_ ?_) ?_
  · simp only [leT, Nat.le_refl, List.map_nil, eq_self, and_self,  leH, leO, leR, leN, lkR, ren, renL, nbl, nblL, gtm, geth, remh, sub, subL, Nat.beq, cond_true, cond_false, true_and, and_true, Nat.reduceLT, Nat.lt_add_one, Nat.zero_lt_one, Nat.zero_le, Nat.zero_add]
  · simp only [leT, Nat.le_refl, List.map_nil, eq_self, and_self,  leH, leO, leR, leN, lkR, ren, renL, nbl, nblL, gtm, geth, remh, sub, subL, Nat.beq, cond_true, cond_false, true_and, and_true, Nat.reduceLT, Nat.lt_add_one, Nat.zero_lt_one, Nat.zero_le, Nat.zero_add] <;> rfl
  · simp only [leT, Nat.le_refl, List.map_nil, eq_self, and_self,  leH, leO, leR, leN, lkR, ren, renL, nbl, nblL, gtm, geth, remh, sub, subL, Nat.beq, cond_true, cond_false, true_and, and_true, Nat.reduceLT, Nat.lt_add_one, Nat.zero_lt_one, Nat.zero_le, Nat.zero_add]
  · rintro ⟨i, hi⟩
    simp only [hT, eE, bytB, boo, eqK, isC, convK, fitsK, inst, instV, instC, instT, argTm, wpcE, SeqE, BlkE, RndE, wopsE, RetE, RetXE, RetRE, RetGE, resR, stp, bin, binI, numK, dstOf, St.ev, St.put, gtm, geth, seth, setAll, setRow, srcW, bndW, bldW, rowsW, setC, rdR, rdL, remh, Nat.beq, ofVal, resW, absC, pkR, selH, List.headD, List.toArray, AV.cells?, AV.nb, Nat.reduceAdd, Nat.reduceLT, Nat.reduceLeDiff, List.drop, List.take, puL, AV.pu, packT, List.set, List.all, AV.one, npL, AV.np, sub, subL, Int.reduceToNat]
    refine fun _ => ⟨fun h => ?_, fun h => trivial⟩
    simp only [decide_eq_true_eq] at h
    have hil : i < l.length := by omega
    have hg : ∀ d, (l.map ordE).getD i d = ordE (l.getD i o0) := fun d => getIn ordE l i d o0 hil
    refine wpc_read [0, 1, 2, 3, 4, 5, 6, 7, 8, 9] hm (by kernel_rfl) ?_
    simp only [hT, hg, ordE, eq_self, decide_true, If_lit, wtrE, wthE, hstE, pstE, Pk, eq_self, gOp, ↓If_lit, lenP, List.getElem?_cons_zero, List.getElem?_cons_succ, Nat.reduceSub, reduceCtorEq, eE, bytB, boo, eqK, isC, convK, fitsK, inst, instV, instC, instT, argTm, wpcE, SeqE, BlkE, RndE, wopsE, RetE, RetXE, RetRE, RetGE, resR, stp, bin, binI, numK, dstOf, St.ev, St.put, gtm, geth, seth, setAll, setRow, srcW, bndW, bldW, rowsW, setC, rdR, rdL, remh, Nat.beq, ofVal, resW, absC, pkR, selH, List.headD, List.toArray, AV.cells?, AV.nb, Nat.reduceAdd, Nat.reduceLT, Nat.reduceLeDiff, List.drop, List.take, puL, AV.pu, packT, List.set, List.all, AV.one, npL, AV.np, sub, subL, Int.reduceToNat]
    (try unfold lim); repeat first | ((with_reducible refine And.intro ?_ ?_); (first | omega | exact ⟨by omega, by omega⟩ | rfl)) | intro _
    have ex := el (l.getD i o0)
    try simp only [ordE] at ex
    refine Fun.pcall (ex) (by exact rfl) rfl rfl rfl rfl ?_; simp only [hT, nneg, decide_true, decide_false, ↓If_lit, Int.cast_ofNat_Int, Int.reduceLT, Int.reduceLE, wtrE, wthE, hstE, pstE, Pk, eq_self, gOp, ↓If_lit, lenP, List.getElem?_cons_zero, List.getElem?_cons_succ, Nat.reduceSub, reduceCtorEq, eE, bytB, boo, eqK, isC, convK, fitsK, inst, instV, instC, instT, argTm, wpcE, SeqE, BlkE, RndE, wopsE, RetE, RetXE, RetRE, RetGE, resR, stp, bin, binI, numK, dstOf, St.ev, St.put, gtm, geth, seth, setAll, setRow, srcW, bndW, bldW, rowsW, setC, rdR, rdL, remh, Nat.beq, ofVal, resW, absC, pkR, selH, List.headD, List.toArray, AV.cells?, AV.nb, Nat.reduceAdd, Nat.reduceLT, Nat.reduceLeDiff, List.drop, List.take, puL, AV.pu, packT, List.set, List.all, AV.one, npL, AV.np, sub, subL, Int.reduceToNat]; (try unfold lim); repeat first | ((with_reducible refine And.intro ?_ ?_); (first | omega | exact ⟨by omega, by omega⟩ | rfl)) | intro _
    refine ⟨⟨i + 1, hil⟩, by simp only; omega, Le.of [] (Nat.zero_le _) ?_ ?_ ?_⟩
    · simp only [leT, Nat.le_refl, List.map_nil, eq_self, and_self,  leH, leO, leR, leN, lkR, ren, renL, nbl, nblL, gtm, geth, remh, sub, subL, Nat.beq, cond_true, cond_false, true_and, and_true, Nat.reduceLT, Nat.lt_add_one, Nat.zero_lt_one, Nat.zero_le, Nat.zero_add]
    · simp only [leT, Nat.le_refl, List.map_nil, eq_self, and_self,  leH, leO, leR, leN, lkR, ren, renL, nbl, nblL, gtm, geth, remh, sub, subL, Nat.beq, cond_true, cond_false, true_and, and_true, Nat.reduceLT, Nat.lt_add_one, Nat.zero_lt_one, Nat.zero_le, Nat.zero_add] <;> omega
    · simp only [leT, Nat.le_refl, List.map_nil, eq_self, and_self,  leH, leO, leR, leN, lkR, ren, renL, nbl, nblL, gtm, geth, remh, sub, subL, Nat.beq, cond_true, cond_false, true_and, and_true, Nat.reduceLT, Nat.lt_add_one, Nat.zero_lt_one, Nat.zero_le, Nat.zero_add]
theorem TY_eqPlnCell {P : Program} (hP : P = Tryz.prog) : (((fldT P 90 0 = some ((0, (false, 1)))) ∧ (tyT P 3 = some ((false, 1)))) ∧ ((fldT P 90 1 = some ((1, (true, 2)))) ∧ (tyT P 87 = some ((true, 2))))) ∧ (((fldT P 90 2 = some ((3, (false, 1)))) ∧ (tyT P 4 = some ((false, 1)))) ∧ ((bolT P 4 = true) ∧ ((fldT P 90 3 = some ((4, (false, 1)))) ∧ (tyT P 88 = some ((false, 1)))))) := by subst hP; refine ⟨⟨⟨?_, ?_⟩, ⟨?_, ?_⟩⟩, ⟨⟨?_, ?_⟩, ⟨?_, ⟨?_, ?_⟩⟩⟩⟩ <;> kernel_rfl
theorem eqPlnCell {P : Program} [Known P] (hP : P = Tryz.prog) (x : VCell) : Fun P 75 [.agg (cellS x), .agg (cellS x)] (.bool true) := by
  refine fun_of (fn := Tryz.f75) (hP ▸ Tryz.func75) (by kernel_rfl) (by kernel_rfl) (by kernel_rfl) (by kernel_rfl) ?_
  have hT := TY_eqPlnCell hP
  have e0 := @eqLblLabel P _ hP
  have e1 := @eqVmOrderS P _ hP
  clear hP
  intro hl
  clear hl
  simp only [cellS, Tryz.f75, hT, eq_self, decide_true, beq_self_eq_true, If_lit, eE, bytB, boo, eqK, isC, convK, fitsK, inst, instV, instC, instT, argTm, wpcE, SeqE, BlkE, RndE, wopsE, RetE, RetXE, RetRE, RetGE, resR, stp, bin, binI, numK, dstOf, St.ev, St.put, gtm, geth, seth, setAll, setRow, srcW, bndW, bldW, rowsW, setC, rdR, rdL, remh, Nat.beq, ofVal, resW, absC, pkR, selH, List.headD, List.toArray, AV.cells?, AV.nb, Nat.reduceAdd, Nat.reduceLT, Nat.reduceLeDiff, List.drop, List.take, puL, AV.pu, packT, List.set, List.all, AV.one, npL, AV.np, sub, subL, Int.reduceToNat]
  refine Fun.plain (e0 x.2.1) rfl rfl rfl rfl ?_
  simp only [hT, eq_self, decide_true, beq_self_eq_true, If_lit, eE, bytB, boo, eqK, isC, convK, fitsK, inst, instV, instC, instT, argTm, wpcE, SeqE, BlkE, RndE, wopsE, RetE, RetXE, RetRE, RetGE, resR, stp, bin, binI, numK, dstOf, St.ev, St.put, gtm, geth, seth, setAll, setRow, srcW, bndW, bldW, rowsW, setC, rdR, rdL, remh, Nat.beq, ofVal, resW, absC, pkR, selH, List.headD, List.toArray, AV.cells?, AV.nb, Nat.reduceAdd, Nat.reduceLT, Nat.reduceLeDiff, List.drop, List.take, puL, AV.pu, packT, List.set, List.all, AV.one, npL, AV.np, sub, subL, Int.reduceToNat]
  refine Fun.plain (e1 _) rfl rfl rfl rfl ?_
  simp only [hT, eq_self, decide_true, beq_self_eq_true, If_lit, eE, bytB, boo, eqK, isC, convK, fitsK, inst, instV, instC, instT, argTm, wpcE, SeqE, BlkE, RndE, wopsE, RetE, RetXE, RetRE, RetGE, resR, stp, bin, binI, numK, dstOf, St.ev, St.put, gtm, geth, seth, setAll, setRow, srcW, bndW, bldW, rowsW, setC, rdR, rdL, remh, Nat.beq, ofVal, resW, absC, pkR, selH, List.headD, List.toArray, AV.cells?, AV.nb, Nat.reduceAdd, Nat.reduceLT, Nat.reduceLeDiff, List.drop, List.take, puL, AV.pu, packT, List.set, List.all, AV.one, npL, AV.np, sub, subL, Int.reduceToNat]
theorem TY_eqPlnCellS {P : Program} (hP : P = Tryz.prog) : ((P.follows .mixedOrders = true) ∧ (lkT P 30 = 1)) ∧ ((elT P 30 = some ((true, (5, 56)))) ∧ (tyT P 90 = some ((true, 5)))) := by subst hP; refine ⟨⟨?_, ?_⟩, ⟨?_, ?_⟩⟩ <;> kernel_rfl
theorem eqPlnCellS {P : Program} [Known P] (hP : P = Tryz.prog) (l : List (VCell)) (d : List AV) : Fun P 32 [.sl 5 (l.map cellS) d, .sl 5 (l.map cellS) d] (.bool true) := by
  refine fun_of (fn := Tryz.f32) (hP ▸ Tryz.func32) (by kernel_rfl) (by kernel_rfl) (by kernel_rfl) (by kernel_rfl) ?_
  have hT := TY_eqPlnCellS hP
  have hm : P.follows .mixedOrders = true := by subst hP; kernel_rfl
  have el := @eqPlnCell P _ hP
  clear hP
  intro hl
  simp only [limL, limA, and_true, List.length_map] at hl
  simp only [Tryz.f32, hT, eq_self, decide_true, If_lit, eE, bytB, boo, eqK, isC, convK, fitsK, inst, instV, instC, instT, argTm, wpcE, SeqE, BlkE, RndE, wopsE, RetE, RetXE, RetRE, RetGE, resR, stp, bin, binI, numK, dstOf, St.ev, St.put, gtm, geth, seth, setAll, setRow, srcW, bndW, bldW, rowsW, setC, rdR, rdL, remh, Nat.beq, ofVal, resW, absC, pkR, selH, List.headD, List.toArray, AV.cells?, AV.nb, Nat.reduceAdd, Nat.reduceLT, Nat.reduceLeDiff, List.drop, List.take, puL, AV.pu, packT, List.set, List.all, AV.one, npL, AV.np, sub, subL, Int.reduceToNat]
  unfold lim at hl
  have hl' := hl
  (try unfold lim); repeat first | ((with_reducible refine And.intro ?_ ?_); (first | omega | exact ⟨by omega, by omega⟩ | rfl)) | intro _
  refine wpc_loop {i : Nat // i ≤ l.length} (fun i => ⟨[(0, .sl 5 (l.map cellS) d), (1, .sl 5 (l.map cellS) d), (5, .int .i64 i.1)], [], 0⟩) (fun i => l.length - i.1) ⟨0, Nat.zero_le _⟩ (Le.of [] (Nat.zero_le _) ?_ ?_ ?_) ?_
  · simp only [leT, Nat.le_refl, List.map_nil, eq_self, and_self,  leH, leO, leR, leN, lkR, ren, renL, nbl, nblL, gtm, geth, remh, sub, subL, Nat.beq, cond_true, cond_false, true_and, and_true, Nat.reduceLT, Nat.lt_add_one, Nat.zero_lt_one, Nat.zero_le, Nat.zero_add]
  · simp only [leT, Nat.le_refl, List.map_nil, eq_self, and_self,  leH, leO, leR, leN, lkR, ren, renL, nbl, nblL, gtm, geth, remh, sub, subL, Nat.beq, cond_true, cond_false, true_and, and_true, Nat.reduceLT, Nat.lt_add_one, Nat.zero_lt_one, Nat.zero_le, Nat.zero_add] <;> rfl
  · simp only [leT, Nat.le_refl, List.map_nil, eq_self, and_self,  leH, leO, leR, leN, lkR, ren, renL, nbl, nblL, gtm, geth, remh, sub, subL, Nat.beq, cond_true, cond_false, true_and, and_true, Nat.reduceLT, Nat.lt_add_one, Nat.zero_lt_one, Nat.zero_le, Nat.zero_add]
  · rintro ⟨i, hi⟩
    simp only [hT, eE, bytB, boo, eqK, isC, convK, fitsK, inst, instV, instC, instT, argTm, wpcE, SeqE, BlkE, RndE, wopsE, RetE, RetXE, RetRE, RetGE, resR, stp, bin, binI, numK, dstOf, St.ev, St.put, gtm, geth, seth, setAll, setRow, srcW, bndW, bldW, rowsW, setC, rdR, rdL, remh, Nat.beq, ofVal, resW, absC, pkR, selH, List.headD, List.toArray, AV.cells?, AV.nb, Nat.reduceAdd, Nat.reduceLT, Nat.reduceLeDiff, List.drop, List.take, puL, AV.pu, packT, List.set, List.all, AV.one, npL, AV.np, sub, subL, Int.reduceToNat]
    refine fun _ => ⟨fun h => ?_, fun h => trivial⟩
    simp only [decide_eq_true_eq] at h
    have hil : i < l.length := by omega
    have hg : ∀ d, (l.map cellS).getD i d = cellS (l.getD i c0) := fun d => getIn cellS l i d c0 hil
    refine wpc_read [0, 1, 2, 3, 4, 5, 6, 7, 8, 9] hm (by kernel_rfl) ?_
    simp only [hT, hg, cellS, eq_self, decide_true, If_lit, wtrE, wthE, hstE, pstE, Pk, eq_self, gOp, ↓If_lit, lenP, List.getElem?_cons_zero, List.getElem?_cons_succ, Nat.reduceSub, reduceCtorEq, eE, bytB, boo, eqK, isC, convK, fitsK, inst, instV, instC, instT, argTm, wpcE, SeqE, BlkE, RndE, wopsE, RetE, RetXE, RetRE, RetGE, resR, stp, bin, binI, numK, dstOf, St.ev, St.put, gtm, geth, seth, setAll, setRow, srcW, bndW, bldW, rowsW, setC, rdR, rdL, remh, Nat.beq, ofVal, resW, absC, pkR, selH, List.headD, List.toArray, AV.cells?, AV.nb, Nat.reduceAdd, Nat.reduceLT, Nat.reduceLeDiff, List.drop, List.take, puL, AV.pu, packT, List.set, List.all, AV.one, npL, AV.np, sub, subL, Int.reduceToNat]
    (try unfold lim); repeat first | ((with_reducible refine And.intro ?_ ?_); (first | omega | exact ⟨by omega, by omega⟩ | rfl)) | intro _
    have ex := el (l.getD i c0)
    try simp only [cellS] at ex
    refine Fun.pcall (ex) (by exact rfl) rfl rfl rfl rfl ?_; simp only [hT, nneg, decide_true, decide_false, ↓If_lit, Int.cast_ofNat_Int, Int.reduceLT, Int.reduceLE, wtrE, wthE, hstE, pstE, Pk, eq_self, gOp, ↓If_lit, lenP, List.getElem?_cons_zero, List.getElem?_cons_succ, Nat.reduceSub, reduceCtorEq, eE, bytB, boo, eqK, isC, convK, fitsK, inst, instV, instC, instT, argTm, wpcE, SeqE, BlkE, RndE, wopsE, RetE, RetXE, RetRE, RetGE, resR, stp, bin, binI, numK, dstOf, St.ev, St.put, gtm, geth, seth, setAll, setRow, srcW, bndW, bldW, rowsW, setC, rdR, rdL, remh, Nat.beq, ofVal, resW, absC, pkR, selH, List.headD, List.toArray, AV.cells?, AV.nb, Nat.reduceAdd, Nat.reduceLT, Nat.reduceLeDiff, List.drop, List.take, puL, AV.pu, packT, List.set, List.all, AV.one, npL, AV.np, sub, subL, Int.reduceToNat]; (try unfold lim); repeat first | ((with_reducible refine And.intro ?_ ?_); (first | omega | exact ⟨by omega, by omega⟩ | rfl)) | intro _
    refine ⟨⟨i + 1, hil⟩, by simp only; omega, Le.of [] (Nat.zero_le _) ?_ ?_ ?_⟩
    · simp only [leT, Nat.le_refl, List.map_nil, eq_self, and_self,  leH, leO, leR, leN, lkR, ren, renL, nbl, nblL, gtm, geth, remh, sub, subL, Nat.beq, cond_true, cond_false, true_and, and_true, Nat.reduceLT, Nat.lt_add_one, Nat.zero_lt_one, Nat.zero_le, Nat.zero_add]
    · simp only [leT, Nat.le_refl, List.map_nil, eq_self, and_self,  leH, leO, leR, leN, lkR, ren, renL, nbl, nblL, gtm, geth, remh, sub, subL, Nat.beq, cond_true, cond_false, true_and, and_true, Nat.reduceLT, Nat.lt_add_one, Nat.zero_lt_one, Nat.zero_le, Nat.zero_add] <;> omega
    · simp only [leT, Nat.le_refl, List.map_nil, eq_self, and_self,  leH, leO, leR, leN, lkR, ren, renL, nbl, nblL, gtm, geth, remh, sub, subL, Nat.beq, cond_true, cond_false, true_and, and_true, Nat.reduceLT, Nat.lt_add_one, Nat.zero_lt_one, Nat.zero_le, Nat.zero_add]
theorem TY_eqGrdRule {P : Program} (hP : P = Tryz.prog) : (((fldT P 132 0 = some ((0, (false, 1)))) ∧ (tyT P 3 = some ((false, 1)))) ∧ ((fldT P 132 1 = some ((1, (false, 1)))) ∧ (fldT P 132 2 = some ((2, (false, 1)))))) ∧ (((fldT P 132 3 = some ((3, (false, 1)))) ∧ (fldT P 132 4 = some ((4, (false, 1))))) ∧ ((fldT P 132 5 = some ((5, (false, 1)))) ∧ (fldT P 132 6 = some ((6, (false, 1)))))) := by subst hP; refine ⟨⟨⟨?_, ?_⟩, ⟨?_, ?_⟩⟩, ⟨⟨?_, ?_⟩, ⟨?_, ?_⟩⟩⟩ <;> kernel_rfl
theorem eqGrdRule {P : Program} [Known P] (hP : P = Tryz.prog) (x : VRule) : Fun P 126 [.agg (ruleE x), .agg (ruleE x)] (.bool true) := by
  refine fun_of (fn := Tryz.f126) (hP ▸ Tryz.func126) (by kernel_rfl) (by kernel_rfl) (by kernel_rfl) (by kernel_rfl) ?_
  have hT := TY_eqGrdRule hP
  clear hP
  intro hl
  clear hl
  simp only [ruleE, Tryz.f126, hT, eq_self, decide_true, beq_self_eq_true, If_lit, eE, bytB, boo, eqK, isC, convK, fitsK, inst, instV, instC, instT, argTm, wpcE, SeqE, BlkE, RndE, wopsE, RetE, RetXE, RetRE, RetGE, resR, stp, bin, binI, numK, dstOf, St.ev, St.put, gtm, geth, seth, setAll, setRow, srcW, bndW, bldW, rowsW, setC, rdR, rdL, remh, Nat.beq, ofVal, resW, absC, pkR, selH, List.headD, List.toArray, AV.cells?, AV.nb, Nat.reduceAdd, Nat.reduceLT, Nat.reduceLeDiff, List.drop, List.take, puL, AV.pu, packT, List.set, List.all, AV.one, npL, AV.np, sub, subL, Int.reduceToNat]
theorem TY_eqGrdRuleS {P : Program} (hP : P = Tryz.prog) : ((P.follows .mixedOrders = true) ∧ (lkT P 68 = 1)) ∧ ((elT P 68 = some ((true, (7, 56)))) ∧ (tyT P 132 = some ((true, 7)))) := by subst hP; refine ⟨⟨?_, ?_⟩, ⟨?_, ?_⟩⟩ <;> kernel_rfl
theorem eqGrdRuleS {P : Program} [Known P] (hP : P = Tryz.prog) (l : List (VRule)) : Fun P 114 [.sl 7 (l.map ruleE) rZ, .sl 7 (l.map ruleE) rZ] (.bool true) := by
  refine fun_of (fn := Tryz.f114) (hP ▸ Tryz.func114) (by kernel_rfl) (by kernel_rfl) (by kernel_rfl) (by kernel_rfl) ?_
  have hT := TY_eqGrdRuleS hP
  have hm : P.follows .mixedOrders = true := by subst hP; kernel_rfl
  have el := @eqGrdRule P _ hP
  clear hP
  intro hl
  simp only [limL, limA, and_true, List.length_map] at hl
  simp only [Tryz.f114, hT, eq_self, decide_true, If_lit, eE, bytB, boo, eqK, isC, convK, fitsK, inst, instV, instC, instT, argTm, wpcE, SeqE, BlkE, RndE, wopsE, RetE, RetXE, RetRE, RetGE, resR, stp, bin, binI, numK, dstOf, St.ev, St.put, gtm, geth, seth, setAll, setRow, srcW, bndW, bldW, rowsW, setC, rdR, rdL, remh, Nat.beq, ofVal, resW, absC, pkR, selH, List.headD, List.toArray, AV.cells?, AV.nb, Nat.reduceAdd, Nat.reduceLT, Nat.reduceLeDiff, List.drop, List.take, puL, AV.pu, packT, List.set, List.all, AV.one, npL, AV.np, sub, subL, Int.reduceToNat]
  unfold lim at hl
  have hl' := hl
  (try unfold lim); repeat first | ((with_reducible refine And.intro ?_ ?_); (first | omega | exact ⟨by omega, by omega⟩ | rfl)) | intro _
  refine wpc_loop {i : Nat // i ≤ l.length} (fun i => ⟨[(0, .sl 7 (l.map ruleE) rZ), (1, .sl 7 (l.map ruleE) rZ), (5, .int .i64 i.1)], [], 0⟩) (fun i => l.length - i.1) ⟨0, Nat.zero_le _⟩ (Le.of [] (Nat.zero_le _) ?_ ?_ ?_) ?_
  · simp only [leT, Nat.le_refl, List.map_nil, eq_self, and_self,  leH, leO, leR, leN, lkR, ren, renL, nbl, nblL, gtm, geth, remh, sub, subL, Nat.beq, cond_true, cond_false, true_and, and_true, Nat.reduceLT, Nat.lt_add_one, Nat.zero_lt_one, Nat.zero_le, Nat.zero_add]
  · simp only [leT, Nat.le_refl, List.map_nil, eq_self, and_self,  leH, leO, leR, leN, lkR, ren, renL, nbl, nblL, gtm, geth, remh, sub, subL, Nat.beq, cond_true, cond_false, true_and, and_true, Nat.reduceLT, Nat.lt_add_one, Nat.zero_lt_one, Nat.zero_le, Nat.zero_add] <;> rfl
  · simp only [leT, Nat.le_refl, List.map_nil, eq_self, and_self,  leH, leO, leR, leN, lkR, ren, renL, nbl, nblL, gtm, geth, remh, sub, subL, Nat.beq, cond_true, cond_false, true_and, and_true, Nat.reduceLT, Nat.lt_add_one, Nat.zero_lt_one, Nat.zero_le, Nat.zero_add]
  · rintro ⟨i, hi⟩
    simp only [hT, eE, bytB, boo, eqK, isC, convK, fitsK, inst, instV, instC, instT, argTm, wpcE, SeqE, BlkE, RndE, wopsE, RetE, RetXE, RetRE, RetGE, resR, stp, bin, binI, numK, dstOf, St.ev, St.put, gtm, geth, seth, setAll, setRow, srcW, bndW, bldW, rowsW, setC, rdR, rdL, remh, Nat.beq, ofVal, resW, absC, pkR, selH, List.headD, List.toArray, AV.cells?, AV.nb, Nat.reduceAdd, Nat.reduceLT, Nat.reduceLeDiff, List.drop, List.take, puL, AV.pu, packT, List.set, List.all, AV.one, npL, AV.np, sub, subL, Int.reduceToNat]
    refine fun _ => ⟨fun h => ?_, fun h => trivial⟩
    simp only [decide_eq_true_eq] at h
    have hil : i < l.length := by omega
    have hg : ∀ d, (l.map ruleE).getD i d = ruleE (l.getD i r0) := fun d => getIn ruleE l i d r0 hil
    refine wpc_read [0, 1, 2, 3, 4, 5, 6, 7, 8, 9] hm (by kernel_rfl) ?_
    simp only [hT, hg, ruleE, eq_self, decide_true, If_lit, wtrE, wthE, hstE, pstE, Pk, eq_self, gOp, ↓If_lit, lenP, List.getElem?_cons_zero, List.getElem?_cons_succ, Nat.reduceSub, reduceCtorEq, eE, bytB, boo, eqK, isC, convK, fitsK, inst, instV, instC, instT, argTm, wpcE, SeqE, BlkE, RndE, wopsE, RetE, RetXE, RetRE, RetGE, resR, stp, bin, binI, numK, dstOf, St.ev, St.put, gtm, geth, seth, setAll, setRow, srcW, bndW, bldW, rowsW, setC, rdR, rdL, remh, Nat.beq, ofVal, resW, absC, pkR, selH, List.headD, List.toArray, AV.cells?, AV.nb, Nat.reduceAdd, Nat.reduceLT, Nat.reduceLeDiff, List.drop, List.take, puL, AV.pu, packT, List.set, List.all, AV.one, npL, AV.np, sub, subL, Int.reduceToNat]
    (try unfold lim); repeat first | ((with_reducible refine And.intro ?_ ?_); (first | omega | exact ⟨by omega, by omega⟩ | rfl)) | intro _
    have ex := el (l.getD i r0)
    try simp only [ruleE] at ex
    refine Fun.pcall (ex) (by exact rfl) rfl rfl rfl rfl ?_; simp only [hT, nneg, decide_true, decide_false, ↓If_lit, Int.cast_ofNat_Int, Int.reduceLT, Int.reduceLE, wtrE, wthE, hstE, pstE, Pk, eq_self, gOp, ↓If_lit, lenP, List.getElem?_cons_zero, List.getElem?_cons_succ, Nat.reduceSub, reduceCtorEq, eE, bytB, boo, eqK, isC, convK, fitsK, inst, instV, instC, instT, argTm, wpcE, SeqE, BlkE, RndE, wopsE, RetE, RetXE, RetRE, RetGE, resR, stp, bin, binI, numK, dstOf, St.ev, St.put, gtm, geth, seth, setAll, setRow, srcW, bndW, bldW, rowsW, setC, rdR, rdL, remh, Nat.beq, ofVal, resW, absC, pkR, selH, List.headD, List.toArray, AV.cells?, AV.nb, Nat.reduceAdd, Nat.reduceLT, Nat.reduceLeDiff, List.drop, List.take, puL, AV.pu, packT, List.set, List.all, AV.one, npL, AV.np, sub, subL, Int.reduceToNat]; (try unfold lim); repeat first | ((with_reducible refine And.intro ?_ ?_); (first | omega | exact ⟨by omega, by omega⟩ | rfl)) | intro _
    refine ⟨⟨i + 1, hil⟩, by simp only; omega, Le.of [] (Nat.zero_le _) ?_ ?_ ?_⟩
    · simp only [leT, Nat.le_refl, List.map_nil, eq_self, and_self,  leH, leO, leR, leN, lkR, ren, renL, nbl, nblL, gtm, geth, remh, sub, subL, Nat.beq, cond_true, cond_false, true_and, and_true, Nat.reduceLT, Nat.lt_add_one, Nat.zero_lt_one, Nat.zero_le, Nat.zero_add]
    · simp only [leT, Nat.le_refl, List.map_nil, eq_self, and_self,  leH, leO, leR, leN, lkR, ren, renL, nbl, nblL, gtm, geth, remh, sub, subL, Nat.beq, cond_true, cond_false, true_and, and_true, Nat.reduceLT, Nat.lt_add_one, Nat.zero_lt_one, Nat.zero_le, Nat.zero_add] <;> omega
    · simp only [leT, Nat.le_refl, List.map_nil, eq_self, and_self,  leH, leO, leR, leN, lkR, ren, renL, nbl, nblL, gtm, geth, remh, sub, subL, Nat.beq, cond_true, cond_false, true_and, and_true, Nat.reduceLT, Nat.lt_add_one, Nat.zero_lt_one, Nat.zero_le, Nat.zero_add]
theorem TY_eqPlnWay {P : Program} (hP : P = Tryz.prog) : (((fldT P 70 0 = some ((0, (false, 1)))) ∧ (tyT P 3 = some ((false, 1)))) ∧ ((fldT P 70 1 = some ((1, (false, 1)))) ∧ (fldT P 70 2 = some ((2, (false, 1)))))) ∧ (((fldT P 70 3 = some ((3, (false, 1)))) ∧ (tyT P 4 = some ((false, 1)))) ∧ ((bolT P 4 = true) ∧ ((fldT P 70 4 = some ((4, (false, 1)))) ∧ (tyT P 68 = some ((false, 1)))))) := by subst hP; refine ⟨⟨⟨?_, ?_⟩, ⟨?_, ?_⟩⟩, ⟨⟨?_, ?_⟩, ⟨?_, ⟨?_, ?_⟩⟩⟩⟩ <;> kernel_rfl
theorem eqPlnWay {P : Program} [Known P] (hP : P = Tryz.prog) (x : VWay) : Fun P 76 [.agg (wayS x), .agg (wayS x)] (.bool true) := by
  refine fun_of (fn := Tryz.f76) (hP ▸ Tryz.func76) (by kernel_rfl) (by kernel_rfl) (by kernel_rfl) (by kernel_rfl) ?_
  have hT := TY_eqPlnWay hP
  have e0 := @eqGrdRuleS P _ hP
  clear hP
  intro hl
  clear hl
  simp only [wayS, Tryz.f76, hT, eq_self, decide_true, beq_self_eq_true, If_lit, eE, bytB, boo, eqK, isC, convK, fitsK, inst, instV, instC, instT, argTm, wpcE, SeqE, BlkE, RndE, wopsE, RetE, RetXE, RetRE, RetGE, resR, stp, bin, binI, numK, dstOf, St.ev, St.put, gtm, geth, seth, setAll, setRow, srcW, bndW, bldW, rowsW, setC, rdR, rdL, remh, Nat.beq, ofVal, resW, absC, pkR, selH, List.headD, List.toArray, AV.cells?, AV.nb, Nat.reduceAdd, Nat.reduceLT, Nat.reduceLeDiff, List.drop, List.take, puL, AV.pu, packT, List.set, List.all, AV.one, npL, AV.np, sub, subL, Int.reduceToNat]
  refine Fun.plain (e0 _) rfl rfl rfl rfl ?_
  simp only [hT, eq_self, decide_true, beq_self_eq_true, If_lit, eE, bytB, boo, eqK, isC, convK, fitsK, inst, instV, instC, instT, argTm, wpcE, SeqE, BlkE, RndE, wopsE, RetE, RetXE, RetRE, RetGE, resR, stp, bin, binI, numK, dstOf, St.ev, St.put, gtm, geth, seth, setAll, setRow, srcW, bndW, bldW, rowsW, setC, rdR, rdL, remh, Nat.beq, ofVal, resW, absC, pkR, selH, List.headD, List.toArray, AV.cells?, AV.nb, Nat.reduceAdd, Nat.reduceLT, Nat.reduceLeDiff, List.drop, List.take, puL, AV.pu, packT, List.set, List.all, AV.one, npL, AV.np, sub, subL, Int.reduceToNat]
theorem TY_eqPlnWayS {P : Program} (hP : P = Tryz.prog) : ((P.follows .mixedOrders = true) ∧ (lkT P 31 = 1)) ∧ ((elT P 31 = some ((true, (5, 56)))) ∧ (tyT P 70 = some ((true, 5)))) := by subst hP; refine ⟨⟨?_, ?_⟩, ⟨?_, ?_⟩⟩ <;> kernel_rfl
theorem eqPlnWayS {P : Program} [Known P] (hP : P = Tryz.prog) (l : List (VWay)) (d : List AV) : Fun P 33 [.sl 5 (l.map wayS) d, .sl 5 (l.map wayS) d] (.bool true) := by
  refine fun_of (fn := Tryz.f33) (hP ▸ Tryz.func33) (by kernel_rfl) (by kernel_rfl) (by kernel_rfl) (by kernel_rfl) ?_
  have hT := TY_eqPlnWayS hP
  have hm : P.follows .mixedOrders = true := by subst hP; kernel_rfl
  have el := @eqPlnWay P _ hP
  clear hP
  intro hl
  simp only [limL, limA, and_true, List.length_map] at hl
  simp only [Tryz.f33, hT, eq_self, decide_true, If_lit, eE, bytB, boo, eqK, isC, convK, fitsK, inst, instV, instC, instT, argTm, wpcE, SeqE, BlkE, RndE, wopsE, RetE, RetXE, RetRE, RetGE, resR, stp, bin, binI, numK, dstOf, St.ev, St.put, gtm, geth, seth, setAll, setRow, srcW, bndW, bldW, rowsW, setC, rdR, rdL, remh, Nat.beq, ofVal, resW, absC, pkR, selH, List.headD, List.toArray, AV.cells?, AV.nb, Nat.reduceAdd, Nat.reduceLT, Nat.reduceLeDiff, List.drop, List.take, puL, AV.pu, packT, List.set, List.all, AV.one, npL, AV.np, sub, subL, Int.reduceToNat]
  unfold lim at hl
  have hl' := hl
  (try unfold lim); repeat first | ((with_reducible refine And.intro ?_ ?_); (first | omega | exact ⟨by omega, by omega⟩ | rfl)) | intro _
  refine wpc_loop {i : Nat // i ≤ l.length} (fun i => ⟨[(0, .sl 5 (l.map wayS) d), (1, .sl 5 (l.map wayS) d), (5, .int .i64 i.1)], [], 0⟩) (fun i => l.length - i.1) ⟨0, Nat.zero_le _⟩ (Le.of [] (Nat.zero_le _) ?_ ?_ ?_) ?_
  · simp only [leT, Nat.le_refl, List.map_nil, eq_self, and_self,  leH, leO, leR, leN, lkR, ren, renL, nbl, nblL, gtm, geth, remh, sub, subL, Nat.beq, cond_true, cond_false, true_and, and_true, Nat.reduceLT, Nat.lt_add_one, Nat.zero_lt_one, Nat.zero_le, Nat.zero_add]
  · simp only [leT, Nat.le_refl, List.map_nil, eq_self, and_self,  leH, leO, leR, leN, lkR, ren, renL, nbl, nblL, gtm, geth, remh, sub, subL, Nat.beq, cond_true, cond_false, true_and, and_true, Nat.reduceLT, Nat.lt_add_one, Nat.zero_lt_one, Nat.zero_le, Nat.zero_add] <;> rfl
  · simp only [leT, Nat.le_refl, List.map_nil, eq_self, and_self,  leH, leO, leR, leN, lkR, ren, renL, nbl, nblL, gtm, geth, remh, sub, subL, Nat.beq, cond_true, cond_false, true_and, and_true, Nat.reduceLT, Nat.lt_add_one, Nat.zero_lt_one, Nat.zero_le, Nat.zero_add]
  · rintro ⟨i, hi⟩
    simp only [hT, eE, bytB, boo, eqK, isC, convK, fitsK, inst, instV, instC, instT, argTm, wpcE, SeqE, BlkE, RndE, wopsE, RetE, RetXE, RetRE, RetGE, resR, stp, bin, binI, numK, dstOf, St.ev, St.put, gtm, geth, seth, setAll, setRow, srcW, bndW, bldW, rowsW, setC, rdR, rdL, remh, Nat.beq, ofVal, resW, absC, pkR, selH, List.headD, List.toArray, AV.cells?, AV.nb, Nat.reduceAdd, Nat.reduceLT, Nat.reduceLeDiff, List.drop, List.take, puL, AV.pu, packT, List.set, List.all, AV.one, npL, AV.np, sub, subL, Int.reduceToNat]
    refine fun _ => ⟨fun h => ?_, fun h => trivial⟩
    simp only [decide_eq_true_eq] at h
    have hil : i < l.length := by omega
    have hg : ∀ d, (l.map wayS).getD i d = wayS (l.getD i w0) := fun d => getIn wayS l i d w0 hil
    refine wpc_read [0, 1, 2, 3, 4, 5, 6, 7, 8, 9] hm (by kernel_rfl) ?_
    simp only [hT, hg, wayS, eq_self, decide_true, If_lit, wtrE, wthE, hstE, pstE, Pk, eq_self, gOp, ↓If_lit, lenP, List.getElem?_cons_zero, List.getElem?_cons_succ, Nat.reduceSub, reduceCtorEq, eE, bytB, boo, eqK, isC, convK, fitsK, inst, instV, instC, instT, argTm, wpcE, SeqE, BlkE, RndE, wopsE, RetE, RetXE, RetRE, RetGE, resR, stp, bin, binI, numK, dstOf, St.ev, St.put, gtm, geth, seth, setAll, setRow, srcW, bndW, bldW, rowsW, setC, rdR, rdL, remh, Nat.beq, ofVal, resW, absC, pkR, selH, List.headD, List.toArray, AV.cells?, AV.nb, Nat.reduceAdd, Nat.reduceLT, Nat.reduceLeDiff, List.drop, List.take, puL, AV.pu, packT, List.set, List.all, AV.one, npL, AV.np, sub, subL, Int.reduceToNat]
    (try unfold lim); repeat first | ((with_reducible refine And.intro ?_ ?_); (first | omega | exact ⟨by omega, by omega⟩ | rfl)) | intro _
    have ex := el (l.getD i w0)
    try simp only [wayS] at ex
    refine Fun.pcall (ex) (by exact rfl) rfl rfl rfl rfl ?_; simp only [hT, nneg, decide_true, decide_false, ↓If_lit, Int.cast_ofNat_Int, Int.reduceLT, Int.reduceLE, wtrE, wthE, hstE, pstE, Pk, eq_self, gOp, ↓If_lit, lenP, List.getElem?_cons_zero, List.getElem?_cons_succ, Nat.reduceSub, reduceCtorEq, eE, bytB, boo, eqK, isC, convK, fitsK, inst, instV, instC, instT, argTm, wpcE, SeqE, BlkE, RndE, wopsE, RetE, RetXE, RetRE, RetGE, resR, stp, bin, binI, numK, dstOf, St.ev, St.put, gtm, geth, seth, setAll, setRow, srcW, bndW, bldW, rowsW, setC, rdR, rdL, remh, Nat.beq, ofVal, resW, absC, pkR, selH, List.headD, List.toArray, AV.cells?, AV.nb, Nat.reduceAdd, Nat.reduceLT, Nat.reduceLeDiff, List.drop, List.take, puL, AV.pu, packT, List.set, List.all, AV.one, npL, AV.np, sub, subL, Int.reduceToNat]; (try unfold lim); repeat first | ((with_reducible refine And.intro ?_ ?_); (first | omega | exact ⟨by omega, by omega⟩ | rfl)) | intro _
    refine ⟨⟨i + 1, hil⟩, by simp only; omega, Le.of [] (Nat.zero_le _) ?_ ?_ ?_⟩
    · simp only [leT, Nat.le_refl, List.map_nil, eq_self, and_self,  leH, leO, leR, leN, lkR, ren, renL, nbl, nblL, gtm, geth, remh, sub, subL, Nat.beq, cond_true, cond_false, true_and, and_true, Nat.reduceLT, Nat.lt_add_one, Nat.zero_lt_one, Nat.zero_le, Nat.zero_add]
    · simp only [leT, Nat.le_refl, List.map_nil, eq_self, and_self,  leH, leO, leR, leN, lkR, ren, renL, nbl, nblL, gtm, geth, remh, sub, subL, Nat.beq, cond_true, cond_false, true_and, and_true, Nat.reduceLT, Nat.lt_add_one, Nat.zero_lt_one, Nat.zero_le, Nat.zero_add] <;> omega
    · simp only [leT, Nat.le_refl, List.map_nil, eq_self, and_self,  leH, leO, leR, leN, lkR, ren, renL, nbl, nblL, gtm, geth, remh, sub, subL, Nat.beq, cond_true, cond_false, true_and, and_true, Nat.reduceLT, Nat.lt_add_one, Nat.zero_lt_one, Nat.zero_le, Nat.zero_add]
theorem TY_eqPlnSlot {P : Program} (hP : P = Tryz.prog) : (fldT P 94 0 = some ((0, (false, 1)))) ∧ ((tyT P 3 = some ((false, 1))) ∧ (fldT P 94 1 = some ((1, (false, 1))))) := by subst hP; refine ⟨?_, ⟨?_, ?_⟩⟩ <;> kernel_rfl
theorem eqPlnSlot {P : Program} [Known P] (hP : P = Tryz.prog) (x : VSlot) : Fun P 77 [.agg (slotE x), .agg (slotE x)] (.bool true) := by
  refine fun_of (fn := Tryz.f77) (hP ▸ Tryz.func77) (by kernel_rfl) (by kernel_rfl) (by kernel_rfl) (by kernel_rfl) ?_
  have hT := TY_eqPlnSlot hP
  clear hP
  intro hl
  clear hl
  simp only [slotE, Tryz.f77, hT, eq_self, decide_true, beq_self_eq_true, If_lit, eE, bytB, boo, eqK, isC, convK, fitsK, inst, instV, instC, instT, argTm, wpcE, SeqE, BlkE, RndE, wopsE, RetE, RetXE, RetRE, RetGE, resR, stp, bin, binI, numK, dstOf, St.ev, St.put, gtm, geth, seth, setAll, setRow, srcW, bndW, bldW, rowsW, setC, rdR, rdL, remh, Nat.beq, ofVal, resW, absC, pkR, selH, List.headD, List.toArray, AV.cells?, AV.nb, Nat.reduceAdd, Nat.reduceLT, Nat.reduceLeDiff, List.drop, List.take, puL, AV.pu, packT, List.set, List.all, AV.one, npL, AV.np, sub, subL, Int.reduceToNat]
theorem TY_eqPlnSlotS {P : Program} (hP : P = Tryz.prog) : ((P.follows .mixedOrders = true) ∧ (lkT P 32 = 1)) ∧ ((elT P 32 = some ((true, (2, 16)))) ∧ (tyT P 94 = some ((true, 2)))) := by subst hP; refine ⟨⟨?_, ?_⟩, ⟨?_, ?_⟩⟩ <;> kernel_rfl
theorem eqPlnSlotS {P : Program} [Known P] (hP : P = Tryz.prog) (l : List (VSlot)) : Fun P 34 [.sl 2 (l.map slotE) sZ, .sl 2 (l.map slotE) sZ] (.bool true) := by
  refine fun_of (fn := Tryz.f34) (hP ▸ Tryz.func34) (by kernel_rfl) (by kernel_rfl) (by kernel_rfl) (by kernel_rfl) ?_
  have hT := TY_eqPlnSlotS hP
  have hm : P.follows .mixedOrders = true := by subst hP; kernel_rfl
  have el := @eqPlnSlot P _ hP
  clear hP
  intro hl
  simp only [limL, limA, and_true, List.length_map] at hl
  simp only [Tryz.f34, hT, eq_self, decide_true, If_lit, eE, bytB, boo, eqK, isC, convK, fitsK, inst, instV, instC, instT, argTm, wpcE, SeqE, BlkE, RndE, wopsE, RetE, RetXE, RetRE, RetGE, resR, stp, bin, binI, numK, dstOf, St.ev, St.put, gtm, geth, seth, setAll, setRow, srcW, bndW, bldW, rowsW, setC, rdR, rdL, remh, Nat.beq, ofVal, resW, absC, pkR, selH, List.headD, List.toArray, AV.cells?, AV.nb, Nat.reduceAdd, Nat.reduceLT, Nat.reduceLeDiff, List.drop, List.take, puL, AV.pu, packT, List.set, List.all, AV.one, npL, AV.np, sub, subL, Int.reduceToNat]
  unfold lim at hl
  have hl' := hl
  (try unfold lim); repeat first | ((with_reducible refine And.intro ?_ ?_); (first | omega | exact ⟨by omega, by omega⟩ | rfl)) | intro _
  refine wpc_loop {i : Nat // i ≤ l.length} (fun i => ⟨[(0, .sl 2 (l.map slotE) sZ), (1, .sl 2 (l.map slotE) sZ), (5, .int .i64 i.1)], [], 0⟩) (fun i => l.length - i.1) ⟨0, Nat.zero_le _⟩ (Le.of [] (Nat.zero_le _) ?_ ?_ ?_) ?_
  · simp only [leT, Nat.le_refl, List.map_nil, eq_self, and_self,  leH, leO, leR, leN, lkR, ren, renL, nbl, nblL, gtm, geth, remh, sub, subL, Nat.beq, cond_true, cond_false, true_and, and_true, Nat.reduceLT, Nat.lt_add_one, Nat.zero_lt_one, Nat.zero_le, Nat.zero_add]
  · simp only [leT, Nat.le_refl, List.map_nil, eq_self, and_self,  leH, leO, leR, leN, lkR, ren, renL, nbl, nblL, gtm, geth, remh, sub, subL, Nat.beq, cond_true, cond_false, true_and, and_true, Nat.reduceLT, Nat.lt_add_one, Nat.zero_lt_one, Nat.zero_le, Nat.zero_add] <;> rfl
  · simp only [leT, Nat.le_refl, List.map_nil, eq_self, and_self,  leH, leO, leR, leN, lkR, ren, renL, nbl, nblL, gtm, geth, remh, sub, subL, Nat.beq, cond_true, cond_false, true_and, and_true, Nat.reduceLT, Nat.lt_add_one, Nat.zero_lt_one, Nat.zero_le, Nat.zero_add]
  · rintro ⟨i, hi⟩
    simp only [hT, eE, bytB, boo, eqK, isC, convK, fitsK, inst, instV, instC, instT, argTm, wpcE, SeqE, BlkE, RndE, wopsE, RetE, RetXE, RetRE, RetGE, resR, stp, bin, binI, numK, dstOf, St.ev, St.put, gtm, geth, seth, setAll, setRow, srcW, bndW, bldW, rowsW, setC, rdR, rdL, remh, Nat.beq, ofVal, resW, absC, pkR, selH, List.headD, List.toArray, AV.cells?, AV.nb, Nat.reduceAdd, Nat.reduceLT, Nat.reduceLeDiff, List.drop, List.take, puL, AV.pu, packT, List.set, List.all, AV.one, npL, AV.np, sub, subL, Int.reduceToNat]
    refine fun _ => ⟨fun h => ?_, fun h => trivial⟩
    simp only [decide_eq_true_eq] at h
    have hil : i < l.length := by omega
    have hg : ∀ d, (l.map slotE).getD i d = slotE (l.getD i s0) := fun d => getIn slotE l i d s0 hil
    refine wpc_read [0, 1, 2, 3, 4, 5, 6, 7, 8, 9] hm (by kernel_rfl) ?_
    simp only [hT, hg, slotE, eq_self, decide_true, If_lit, wtrE, wthE, hstE, pstE, Pk, eq_self, gOp, ↓If_lit, lenP, List.getElem?_cons_zero, List.getElem?_cons_succ, Nat.reduceSub, reduceCtorEq, eE, bytB, boo, eqK, isC, convK, fitsK, inst, instV, instC, instT, argTm, wpcE, SeqE, BlkE, RndE, wopsE, RetE, RetXE, RetRE, RetGE, resR, stp, bin, binI, numK, dstOf, St.ev, St.put, gtm, geth, seth, setAll, setRow, srcW, bndW, bldW, rowsW, setC, rdR, rdL, remh, Nat.beq, ofVal, resW, absC, pkR, selH, List.headD, List.toArray, AV.cells?, AV.nb, Nat.reduceAdd, Nat.reduceLT, Nat.reduceLeDiff, List.drop, List.take, puL, AV.pu, packT, List.set, List.all, AV.one, npL, AV.np, sub, subL, Int.reduceToNat]
    (try unfold lim); repeat first | ((with_reducible refine And.intro ?_ ?_); (first | omega | exact ⟨by omega, by omega⟩ | rfl)) | intro _
    have ex := el (l.getD i s0)
    try simp only [slotE] at ex
    refine Fun.pcall (ex) (by exact rfl) rfl rfl rfl rfl ?_; simp only [hT, nneg, decide_true, decide_false, ↓If_lit, Int.cast_ofNat_Int, Int.reduceLT, Int.reduceLE, wtrE, wthE, hstE, pstE, Pk, eq_self, gOp, ↓If_lit, lenP, List.getElem?_cons_zero, List.getElem?_cons_succ, Nat.reduceSub, reduceCtorEq, eE, bytB, boo, eqK, isC, convK, fitsK, inst, instV, instC, instT, argTm, wpcE, SeqE, BlkE, RndE, wopsE, RetE, RetXE, RetRE, RetGE, resR, stp, bin, binI, numK, dstOf, St.ev, St.put, gtm, geth, seth, setAll, setRow, srcW, bndW, bldW, rowsW, setC, rdR, rdL, remh, Nat.beq, ofVal, resW, absC, pkR, selH, List.headD, List.toArray, AV.cells?, AV.nb, Nat.reduceAdd, Nat.reduceLT, Nat.reduceLeDiff, List.drop, List.take, puL, AV.pu, packT, List.set, List.all, AV.one, npL, AV.np, sub, subL, Int.reduceToNat]; (try unfold lim); repeat first | ((with_reducible refine And.intro ?_ ?_); (first | omega | exact ⟨by omega, by omega⟩ | rfl)) | intro _
    refine ⟨⟨i + 1, hil⟩, by simp only; omega, Le.of [] (Nat.zero_le _) ?_ ?_ ?_⟩
    · simp only [leT, Nat.le_refl, List.map_nil, eq_self, and_self,  leH, leO, leR, leN, lkR, ren, renL, nbl, nblL, gtm, geth, remh, sub, subL, Nat.beq, cond_true, cond_false, true_and, and_true, Nat.reduceLT, Nat.lt_add_one, Nat.zero_lt_one, Nat.zero_le, Nat.zero_add]
    · simp only [leT, Nat.le_refl, List.map_nil, eq_self, and_self,  leH, leO, leR, leN, lkR, ren, renL, nbl, nblL, gtm, geth, remh, sub, subL, Nat.beq, cond_true, cond_false, true_and, and_true, Nat.reduceLT, Nat.lt_add_one, Nat.zero_lt_one, Nat.zero_le, Nat.zero_add] <;> omega
    · simp only [leT, Nat.le_refl, List.map_nil, eq_self, and_self,  leH, leO, leR, leN, lkR, ren, renL, nbl, nblL, gtm, geth, remh, sub, subL, Nat.beq, cond_true, cond_false, true_and, and_true, Nat.reduceLT, Nat.lt_add_one, Nat.zero_lt_one, Nat.zero_le, Nat.zero_add]
theorem TY_eqIntS {P : Program} (hP : P = Tryz.prog) : ((P.follows .mixedOrders = true) ∧ (lkT P 85 = 1)) ∧ ((elT P 85 = some ((false, (1, 8)))) ∧ (tyT P 3 = some ((false, 1)))) := by subst hP; refine ⟨⟨?_, ?_⟩, ⟨?_, ?_⟩⟩ <;> kernel_rfl
theorem eqIntS {P : Program} [Known P] (hP : P = Tryz.prog) (l : List (Int)) : Fun P 78 [.sl 1 (l.map intE) iZ, .sl 1 (l.map intE) iZ] (.bool true) := by
  refine fun_of (fn := Tryz.f78) (hP ▸ Tryz.func78) (by kernel_rfl) (by kernel_rfl) (by kernel_rfl) (by kernel_rfl) ?_
  have hT := TY_eqIntS hP
  have hm : P.follows .mixedOrders = true := by subst hP; kernel_rfl
  clear hP
  intro hl
  simp only [limL, limA, and_true, List.length_map] at hl
  simp only [Tryz.f78, hT, eq_self, decide_true, If_lit, eE, bytB, boo, eqK, isC, convK, fitsK, inst, instV, instC, instT, argTm, wpcE, SeqE, BlkE, RndE, wopsE, RetE, RetXE, RetRE, RetGE, resR, stp, bin, binI, numK, dstOf, St.ev, St.put, gtm, geth, seth, setAll, setRow, srcW, bndW, bldW, rowsW, setC, rdR, rdL, remh, Nat.beq, ofVal, resW, absC, pkR, selH, List.headD, List.toArray, AV.cells?, AV.nb, Nat.reduceAdd, Nat.reduceLT, Nat.reduceLeDiff, List.drop, List.take, puL, AV.pu, packT, List.set, List.all, AV.one, npL, AV.np, sub, subL, Int.reduceToNat]
  unfold lim at hl
  have hl' := hl
  (try unfold lim); repeat first | ((with_reducible refine And.intro ?_ ?_); (first | omega | exact ⟨by omega, by omega⟩ | rfl)) | intro _
  refine wpc_loop {i : Nat // i ≤ l.length} (fun i => ⟨[(0, .sl 1 (l.map intE) iZ), (1, .sl 1 (l.map intE) iZ), (5, .int .i64 i.1)], [], 0⟩) (fun i => l.length - i.1) ⟨0, Nat.zero_le _⟩ (Le.of [] (Nat.zero_le _) ?_ ?_ ?_) ?_
  · simp only [leT, Nat.le_refl, List.map_nil, eq_self, and_self,  leH, leO, leR, leN, lkR, ren, renL, nbl, nblL, gtm, geth, remh, sub, subL, Nat.beq, cond_true, cond_false, true_and, and_true, Nat.reduceLT, Nat.lt_add_one, Nat.zero_lt_one, Nat.zero_le, Nat.zero_add]
  · simp only [leT, Nat.le_refl, List.map_nil, eq_self, and_self,  leH, leO, leR, leN, lkR, ren, renL, nbl, nblL, gtm, geth, remh, sub, subL, Nat.beq, cond_true, cond_false, true_and, and_true, Nat.reduceLT, Nat.lt_add_one, Nat.zero_lt_one, Nat.zero_le, Nat.zero_add] <;> rfl
  · simp only [leT, Nat.le_refl, List.map_nil, eq_self, and_self,  leH, leO, leR, leN, lkR, ren, renL, nbl, nblL, gtm, geth, remh, sub, subL, Nat.beq, cond_true, cond_false, true_and, and_true, Nat.reduceLT, Nat.lt_add_one, Nat.zero_lt_one, Nat.zero_le, Nat.zero_add]
  · rintro ⟨i, hi⟩
    simp only [hT, eE, bytB, boo, eqK, isC, convK, fitsK, inst, instV, instC, instT, argTm, wpcE, SeqE, BlkE, RndE, wopsE, RetE, RetXE, RetRE, RetGE, resR, stp, bin, binI, numK, dstOf, St.ev, St.put, gtm, geth, seth, setAll, setRow, srcW, bndW, bldW, rowsW, setC, rdR, rdL, remh, Nat.beq, ofVal, resW, absC, pkR, selH, List.headD, List.toArray, AV.cells?, AV.nb, Nat.reduceAdd, Nat.reduceLT, Nat.reduceLeDiff, List.drop, List.take, puL, AV.pu, packT, List.set, List.all, AV.one, npL, AV.np, sub, subL, Int.reduceToNat]
    refine fun _ => ⟨fun h => ?_, fun h => trivial⟩
    simp only [decide_eq_true_eq] at h
    have hil : i < l.length := by omega
    have hg : ∀ d, (l.map intE).getD i d = intE (l.getD i 0) := fun d => getIn intE l i d 0 hil
    refine wpc_read [0, 1, 2, 3, 4, 5, 6, 7, 8] hm (by kernel_rfl) ?_
    simp only [hT, hg, intE, eq_self, decide_true, If_lit, wtrE, wthE, hstE, pstE, Pk, eq_self, gOp, ↓If_lit, lenP, List.getElem?_cons_zero, List.getElem?_cons_succ, Nat.reduceSub, reduceCtorEq, eE, bytB, boo, eqK, isC, convK, fitsK, inst, instV, instC, instT, argTm, wpcE, SeqE, BlkE, RndE, wopsE, RetE, RetXE, RetRE, RetGE, resR, stp, bin, binI, numK, dstOf, St.ev, St.put, gtm, geth, seth, setAll, setRow, srcW, bndW, bldW, rowsW, setC, rdR, rdL, remh, Nat.beq, ofVal, resW, absC, pkR, selH, List.headD, List.toArray, AV.cells?, AV.nb, Nat.reduceAdd, Nat.reduceLT, Nat.reduceLeDiff, List.drop, List.take, puL, AV.pu, packT, List.set, List.all, AV.one, npL, AV.np, sub, subL, Int.reduceToNat]
    (try unfold lim); repeat first | ((with_reducible refine And.intro ?_ ?_); (first | omega | exact ⟨by omega, by omega⟩ | rfl)) | intro _
    refine ⟨⟨i + 1, hil⟩, by simp only; omega, Le.of [] (Nat.zero_le _) ?_ ?_ ?_⟩
    · simp only [leT, Nat.le_refl, List.map_nil, eq_self, and_self,  leH, leO, leR, leN, lkR, ren, renL, nbl, nblL, gtm, geth, remh, sub, subL, Nat.beq, cond_true, cond_false, true_and, and_true, Nat.reduceLT, Nat.lt_add_one, Nat.zero_lt_one, Nat.zero_le, Nat.zero_add]
    · simp only [leT, Nat.le_refl, List.map_nil, eq_self, and_self,  leH, leO, leR, leN, lkR, ren, renL, nbl, nblL, gtm, geth, remh, sub, subL, Nat.beq, cond_true, cond_false, true_and, and_true, Nat.reduceLT, Nat.lt_add_one, Nat.zero_lt_one, Nat.zero_le, Nat.zero_add] <;> omega
    · simp only [leT, Nat.le_refl, List.map_nil, eq_self, and_self,  leH, leO, leR, leN, lkR, ren, renL, nbl, nblL, gtm, geth, remh, sub, subL, Nat.beq, cond_true, cond_false, true_and, and_true, Nat.reduceLT, Nat.lt_add_one, Nat.zero_lt_one, Nat.zero_le, Nat.zero_add]
theorem TY_eqIntSS {P : Program} (hP : P = Tryz.prog) : ((P.follows .mixedOrders = true) ∧ (lkT P 25 = 1)) ∧ ((elT P 25 = some ((false, (1, 24)))) ∧ (tyT P 85 = some ((false, 1)))) := by subst hP; refine ⟨⟨?_, ?_⟩, ⟨?_, ?_⟩⟩ <;> kernel_rfl
theorem eqIntSS {P : Program} [Known P] (hP : P = Tryz.prog) (l : List (List Int)) (d : List AV) : Fun P 35 [.sl 1 (l.map turnS) d, .sl 1 (l.map turnS) d] (.bool true) := by
  refine fun_of (fn := Tryz.f35) (hP ▸ Tryz.func35) (by kernel_rfl) (by kernel_rfl) (by kernel_rfl) (by kernel_rfl) ?_
  have hT := TY_eqIntSS hP
  have hm : P.follows .mixedOrders = true := by subst hP; kernel_rfl
  have el := @eqIntS P _ hP
  clear hP
  intro hl
  simp only [limL, limA, and_true, List.length_map] at hl
  simp only [Tryz.f35, hT, eq_self, decide_true, If_lit, eE, bytB, boo, eqK, isC, convK, fitsK, inst, instV, instC, instT, argTm, wpcE, SeqE, BlkE, RndE, wopsE, RetE, RetXE, RetRE, RetGE, resR, stp, bin, binI, numK, dstOf, St.ev, St.put, gtm, geth, seth, setAll, setRow, srcW, bndW, bldW, rowsW, setC, rdR, rdL, remh, Nat.beq, ofVal, resW, absC, pkR, selH, List.headD, List.toArray, AV.cells?, AV.nb, Nat.reduceAdd, Nat.reduceLT, Nat.reduceLeDiff, List.drop, List.take, puL, AV.pu, packT, List.set, List.all, AV.one, npL, AV.np, sub, subL, Int.reduceToNat]
  unfold lim at hl
  have hl' := hl
  (try unfold lim); repeat first | ((with_reducible refine And.intro ?_ ?_); (first | omega | exact ⟨by omega, by omega⟩ | rfl)) | intro _
  refine wpc_loop {i : Nat // i ≤ l.length} (fun i => ⟨[(0, .sl 1 (l.map turnS) d), (1, .sl 1 (l.map turnS) d), (5, .int .i64 i.1)], [], 0⟩) (fun i => l.length - i.1) ⟨0, Nat.zero_le _⟩ (Le.of [] (Nat.zero_le _) ?_ ?_ ?_) ?_
  · simp only [leT, Nat.le_refl, List.map_nil, eq_self, and_self,  leH, leO, leR, leN, lkR, ren, renL, nbl, nblL, gtm, geth, remh, sub, subL, Nat.beq, cond_true, cond_false, true_and, and_true, Nat.reduceLT, Nat.lt_add_one, Nat.zero_lt_one, Nat.zero_le, Nat.zero_add]
  · simp only [leT, Nat.le_refl, List.map_nil, eq_self, and_self,  leH, leO, leR, leN, lkR, ren, renL, nbl, nblL, gtm, geth, remh, sub, subL, Nat.beq, cond_true, cond_false, true_and, and_true, Nat.reduceLT, Nat.lt_add_one, Nat.zero_lt_one, Nat.zero_le, Nat.zero_add] <;> rfl
  · simp only [leT, Nat.le_refl, List.map_nil, eq_self, and_self,  leH, leO, leR, leN, lkR, ren, renL, nbl, nblL, gtm, geth, remh, sub, subL, Nat.beq, cond_true, cond_false, true_and, and_true, Nat.reduceLT, Nat.lt_add_one, Nat.zero_lt_one, Nat.zero_le, Nat.zero_add]
  · rintro ⟨i, hi⟩
    simp only [hT, eE, bytB, boo, eqK, isC, convK, fitsK, inst, instV, instC, instT, argTm, wpcE, SeqE, BlkE, RndE, wopsE, RetE, RetXE, RetRE, RetGE, resR, stp, bin, binI, numK, dstOf, St.ev, St.put, gtm, geth, seth, setAll, setRow, srcW, bndW, bldW, rowsW, setC, rdR, rdL, remh, Nat.beq, ofVal, resW, absC, pkR, selH, List.headD, List.toArray, AV.cells?, AV.nb, Nat.reduceAdd, Nat.reduceLT, Nat.reduceLeDiff, List.drop, List.take, puL, AV.pu, packT, List.set, List.all, AV.one, npL, AV.np, sub, subL, Int.reduceToNat]
    refine fun _ => ⟨fun h => ?_, fun h => trivial⟩
    simp only [decide_eq_true_eq] at h
    have hil : i < l.length := by omega
    have hg : ∀ d, (l.map turnS).getD i d = turnS (l.getD i []) := fun d => getIn turnS l i d [] hil
    refine wpc_read [0, 1, 2, 3, 4, 5, 6, 7, 8, 9] hm (by kernel_rfl) ?_
    simp only [hT, hg, turnS, eq_self, decide_true, If_lit, wtrE, wthE, hstE, pstE, Pk, eq_self, gOp, ↓If_lit, lenP, List.getElem?_cons_zero, List.getElem?_cons_succ, Nat.reduceSub, reduceCtorEq, eE, bytB, boo, eqK, isC, convK, fitsK, inst, instV, instC, instT, argTm, wpcE, SeqE, BlkE, RndE, wopsE, RetE, RetXE, RetRE, RetGE, resR, stp, bin, binI, numK, dstOf, St.ev, St.put, gtm, geth, seth, setAll, setRow, srcW, bndW, bldW, rowsW, setC, rdR, rdL, remh, Nat.beq, ofVal, resW, absC, pkR, selH, List.headD, List.toArray, AV.cells?, AV.nb, Nat.reduceAdd, Nat.reduceLT, Nat.reduceLeDiff, List.drop, List.take, puL, AV.pu, packT, List.set, List.all, AV.one, npL, AV.np, sub, subL, Int.reduceToNat]
    (try unfold lim); repeat first | ((with_reducible refine And.intro ?_ ?_); (first | omega | exact ⟨by omega, by omega⟩ | rfl)) | intro _
    have ex := el (l.getD i [])
    try simp only [turnS] at ex
    refine Fun.pcall (ex) (by exact rfl) rfl rfl rfl rfl ?_; simp only [hT, nneg, decide_true, decide_false, ↓If_lit, Int.cast_ofNat_Int, Int.reduceLT, Int.reduceLE, wtrE, wthE, hstE, pstE, Pk, eq_self, gOp, ↓If_lit, lenP, List.getElem?_cons_zero, List.getElem?_cons_succ, Nat.reduceSub, reduceCtorEq, eE, bytB, boo, eqK, isC, convK, fitsK, inst, instV, instC, instT, argTm, wpcE, SeqE, BlkE, RndE, wopsE, RetE, RetXE, RetRE, RetGE, resR, stp, bin, binI, numK, dstOf, St.ev, St.put, gtm, geth, seth, setAll, setRow, srcW, bndW, bldW, rowsW, setC, rdR, rdL, remh, Nat.beq, ofVal, resW, absC, pkR, selH, List.headD, List.toArray, AV.cells?, AV.nb, Nat.reduceAdd, Nat.reduceLT, Nat.reduceLeDiff, List.drop, List.take, puL, AV.pu, packT, List.set, List.all, AV.one, npL, AV.np, sub, subL, Int.reduceToNat]; (try unfold lim); repeat first | ((with_reducible refine And.intro ?_ ?_); (first | omega | exact ⟨by omega, by omega⟩ | rfl)) | intro _
    refine ⟨⟨i + 1, hil⟩, by simp only; omega, Le.of [] (Nat.zero_le _) ?_ ?_ ?_⟩
    · simp only [leT, Nat.le_refl, List.map_nil, eq_self, and_self,  leH, leO, leR, leN, lkR, ren, renL, nbl, nblL, gtm, geth, remh, sub, subL, Nat.beq, cond_true, cond_false, true_and, and_true, Nat.reduceLT, Nat.lt_add_one, Nat.zero_lt_one, Nat.zero_le, Nat.zero_add]
    · simp only [leT, Nat.le_refl, List.map_nil, eq_self, and_self,  leH, leO, leR, leN, lkR, ren, renL, nbl, nblL, gtm, geth, remh, sub, subL, Nat.beq, cond_true, cond_false, true_and, and_true, Nat.reduceLT, Nat.lt_add_one, Nat.zero_lt_one, Nat.zero_le, Nat.zero_add] <;> omega
    · simp only [leT, Nat.le_refl, List.map_nil, eq_self, and_self,  leH, leO, leR, leN, lkR, ren, renL, nbl, nblL, gtm, geth, remh, sub, subL, Nat.beq, cond_true, cond_false, true_and, and_true, Nat.reduceLT, Nat.lt_add_one, Nat.zero_lt_one, Nat.zero_le, Nat.zero_add]
theorem TY_eqPlnPlan {P : Program} (hP : P = Tryz.prog) : (((fldT P 34 0 = some ((0, (false, 1)))) ∧ ((tyT P 3 = some ((false, 1))) ∧ (fldT P 34 1 = some ((1, (false, 1)))))) ∧ ((fldT P 34 2 = some ((2, (false, 1)))) ∧ ((fldT P 34 3 = some ((3, (false, 1)))) ∧ (tyT P 30 = some ((false, 1)))))) ∧ (((fldT P 34 4 = some ((4, (false, 1)))) ∧ ((tyT P 31 = some ((false, 1))) ∧ (fldT P 34 5 = some ((5, (false, 1)))))) ∧ ((tyT P 32 = some ((false, 1))) ∧ ((fldT P 34 6 = some ((6, (false, 1)))) ∧ (tyT P 25 = some ((false, 1)))))) := by subst hP; refine ⟨⟨⟨?_, ⟨?_, ?_⟩⟩, ⟨?_, ⟨?_, ?_⟩⟩⟩, ⟨⟨?_, ⟨?_, ?_⟩⟩, ⟨?_, ⟨?_, ?_⟩⟩⟩⟩ <;> kernel_rfl
theorem eqPlnPlan {P : Program} [Known P] (hP : P = Tryz.prog) (x : VPln) : Fun P 11 [.agg (plnS x), .agg (plnS x)] (.bool true) := by
  refine fun_of (fn := Tryz.f11) (hP ▸ Tryz.func11) (by kernel_rfl) (by kernel_rfl) (by kernel_rfl) (by kernel_rfl) ?_
  have hT := TY_eqPlnPlan hP
  have e0 := @eqPlnCellS P _ hP
  have e1 := @eqPlnWayS P _ hP
  have e2 := @eqPlnSlotS P _ hP
  have e3 := @eqIntSS P _ hP
  clear hP
  intro hl
  clear hl
  simp only [plnS, Tryz.f11, hT, eq_self, decide_true, beq_self_eq_true, If_lit, eE, bytB, boo, eqK, isC, convK, fitsK, inst, instV, instC, instT, argTm, wpcE, SeqE, BlkE, RndE, wopsE, RetE, RetXE, RetRE, RetGE, resR, stp, bin, binI, numK, dstOf, St.ev, St.put, gtm, geth, seth, setAll, setRow, srcW, bndW, bldW, rowsW, setC, rdR, rdL, remh, Nat.beq, ofVal, resW, absC, pkR, selH, List.headD, List.toArray, AV.cells?, AV.nb, Nat.reduceAdd, Nat.reduceLT, Nat.reduceLeDiff, List.drop, List.take, puL, AV.pu, packT, List.set, List.all, AV.one, npL, AV.np, sub, subL, Int.reduceToNat]
  refine Fun.plain (e0 _ _) rfl rfl rfl rfl ?_
  simp only [hT, eq_self, decide_true, beq_self_eq_true, If_lit, eE, bytB, boo, eqK, isC, convK, fitsK, inst, instV, instC, instT, argTm, wpcE, SeqE, BlkE, RndE, wopsE, RetE, RetXE, RetRE, RetGE, resR, stp, bin, binI, numK, dstOf, St.ev, St.put, gtm, geth, seth, setAll, setRow, srcW, bndW, bldW, rowsW, setC, rdR, rdL, remh, Nat.beq, ofVal, resW, absC, pkR, selH, List.headD, List.toArray, AV.cells?, AV.nb, Nat.reduceAdd, Nat.reduceLT, Nat.reduceLeDiff, List.drop, List.take, puL, AV.pu, packT, List.set, List.all, AV.one, npL, AV.np, sub, subL, Int.reduceToNat]
  refine Fun.plain (e1 _ _) rfl rfl rfl rfl ?_
  simp only [hT, eq_self, decide_true, beq_self_eq_true, If_lit, eE, bytB, boo, eqK, isC, convK, fitsK, inst, instV, instC, instT, argTm, wpcE, SeqE, BlkE, RndE, wopsE, RetE, RetXE, RetRE, RetGE, resR, stp, bin, binI, numK, dstOf, St.ev, St.put, gtm, geth, seth, setAll, setRow, srcW, bndW, bldW, rowsW, setC, rdR, rdL, remh, Nat.beq, ofVal, resW, absC, pkR, selH, List.headD, List.toArray, AV.cells?, AV.nb, Nat.reduceAdd, Nat.reduceLT, Nat.reduceLeDiff, List.drop, List.take, puL, AV.pu, packT, List.set, List.all, AV.one, npL, AV.np, sub, subL, Int.reduceToNat]
  refine Fun.plain (e2 _) rfl rfl rfl rfl ?_
  simp only [hT, eq_self, decide_true, beq_self_eq_true, If_lit, eE, bytB, boo, eqK, isC, convK, fitsK, inst, instV, instC, instT, argTm, wpcE, SeqE, BlkE, RndE, wopsE, RetE, RetXE, RetRE, RetGE, resR, stp, bin, binI, numK, dstOf, St.ev, St.put, gtm, geth, seth, setAll, setRow, srcW, bndW, bldW, rowsW, setC, rdR, rdL, remh, Nat.beq, ofVal, resW, absC, pkR, selH, List.headD, List.toArray, AV.cells?, AV.nb, Nat.reduceAdd, Nat.reduceLT, Nat.reduceLeDiff, List.drop, List.take, puL, AV.pu, packT, List.set, List.all, AV.one, npL, AV.np, sub, subL, Int.reduceToNat]
  refine Fun.plain (e3 _ _) rfl rfl rfl rfl ?_
  simp only [hT, eq_self, decide_true, beq_self_eq_true, If_lit, eE, bytB, boo, eqK, isC, convK, fitsK, inst, instV, instC, instT, argTm, wpcE, SeqE, BlkE, RndE, wopsE, RetE, RetXE, RetRE, RetGE, resR, stp, bin, binI, numK, dstOf, St.ev, St.put, gtm, geth, seth, setAll, setRow, srcW, bndW, bldW, rowsW, setC, rdR, rdL, remh, Nat.beq, ofVal, resW, absC, pkR, selH, List.headD, List.toArray, AV.cells?, AV.nb, Nat.reduceAdd, Nat.reduceLT, Nat.reduceLeDiff, List.drop, List.take, puL, AV.pu, packT, List.set, List.all, AV.one, npL, AV.np, sub, subL, Int.reduceToNat]
end Go.Proofs.YtnhcchmbdkiodaaGreat.C
