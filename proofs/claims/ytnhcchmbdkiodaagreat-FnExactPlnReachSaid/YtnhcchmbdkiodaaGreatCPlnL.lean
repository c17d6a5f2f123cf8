/- The law of PlnOk: its code always says yes. -/
import Derived.Test.YtnhcchmbdkiodaaGreatCPlnK
import Derived.Test.YtnhcchmbdkiodaaGreatCPlnZ
import Derived.Test.YtnhcchmbdkiodaaGreatCPlnE
set_option maxRecDepth 100000
set_option maxHeartbeats 4000000
set_option linter.unusedSimpArgs false
set_option linter.unusedVariables false
namespace Go.Proofs.YtnhcchmbdkiodaaGreat.C
open Go Go.Av Go.Proofs
theorem plnO_S (p : VPln) : rdL (plnO p) = plnS p := by
  unfold plnO plnS
  simp only [rdL, AV.rd, rdR_cell, rdR_way, rdR_slot, rdR_turn]
theorem TY_lawOk {P : Program} (hP : P = Tryz.prog) : ((P.follows .mixedOrders = true) ∧ (tyT P 27 = some ((true, 7)))) ∧ ((zeroT P 34 = some (((.int .i64 0) :: ((.int .i64 0) :: ((.int .i64 0) :: (.nils :: (.nils :: (.nils :: (.nils :: []))))))))) ∧ ((tyT P 34 = some ((true, 7))) ∧ (bolT P 4 = true))) := by subst hP; refine ⟨⟨?_, ?_⟩, ⟨?_, ⟨?_, ?_⟩⟩⟩ <;> kernel_rfl
theorem lawOk {P : Program} [Known P] (hP : P = Tryz.prog) (p : VPln) : Fun P 3 [.agg (plnS p)] (.bool true) := by
  refine fun_of (fn := Tryz.f3) (hP ▸ Tryz.func3) (by kernel_rfl) (by kernel_rfl) (by kernel_rfl) (by kernel_rfl) ?_
  have hT := TY_lawOk hP
  have hm : P.follows .mixedOrders = true := by subst hP; kernel_rfl
  have sz := szPlnPlan hP p 1048576 (by omega) (by omega)
  have to := fun h => toPlnPlan hP p h
  have os := fun h => plnOkS hP p h
  have oi := fun h => plnOkI hP p h
  have eq := eqPlnPlan hP p
  clear hP
  intro hl
  clear hl
  simp only [plnS] at sz to os oi eq
  simp only [plnO] at to
  simp only [plnS, Tryz.f3, hT, eE, bytB, boo, eqK, isC, convK, fitsK, inst, instV, instC, instT, argTm, wpcE, SeqE, BlkE, RndE, wopsE, RetE, RetXE, RetRE, RetGE, resR, stp, bin, binI, numK, dstOf, St.ev, St.put, gtm, geth, seth, setAll, setRow, srcW, bndW, bldW, rowsW, setC, rdR, rdL, remh, Nat.beq, ofVal, resW, absC, pkR, selH, List.headD, List.toArray, AV.cells?, AV.nb, Nat.reduceAdd, Nat.reduceLT, Nat.reduceLeDiff, List.drop, List.take, puL, AV.pu, packT, List.set, List.all, AV.one, npL, AV.np, sub, subL, Int.reduceToNat]
  refine Fun.plain sz rfl rfl rfl rfl ?_
  simp only [hT, eE, bytB, boo, eqK, isC, convK, fitsK, inst, instV, instC, instT, argTm, wpcE, SeqE, BlkE, RndE, wopsE, RetE, RetXE, RetRE, RetGE, resR, stp, bin, binI, numK, dstOf, St.ev, St.put, gtm, geth, seth, setAll, setRow, srcW, bndW, bldW, rowsW, setC, rdR, rdL, remh, Nat.beq, ofVal, resW, absC, pkR, selH, List.headD, List.toArray, AV.cells?, AV.nb, Nat.reduceAdd, Nat.reduceLT, Nat.reduceLeDiff, List.drop, List.take, puL, AV.pu, packT, List.set, List.all, AV.one, npL, AV.np, sub, subL, Int.reduceToNat]
  refine ⟨fun q => by first | rfl | trivial, fun q => ?_⟩
  have hN : plnN p ≤ 1048576 := by
    simp only [decide_eq_false_iff_not] at q
    unfold szL at q
    unfold plnN
    split at q <;> omega
  have hs := Sz.of hN
  have to := to hs
  have os := os hs
  have oi := oi hs
  generalize (res p).isNone = b at *
  refine Fun.plain (to) rfl rfl rfl rfl ?_; simp only [hT, nneg, beq_self_eq_true, decide_true, decide_false, ↓If_lit, Int.cast_ofNat_Int, Int.reduceLT, Int.reduceLE, eE, bytB, boo, eqK, isC, convK, fitsK, inst, instV, instC, instT, argTm, wpcE, SeqE, BlkE, RndE, wopsE, RetE, RetXE, RetRE, RetGE, resR, stp, bin, binI, numK, dstOf, St.ev, St.put, gtm, geth, seth, setAll, setRow, srcW, bndW, bldW, rowsW, setC, rdR, rdL, remh, Nat.beq, ofVal, resW, absC, pkR, selH, List.headD, List.toArray, AV.cells?, AV.nb, Nat.reduceAdd, Nat.reduceLT, Nat.reduceLeDiff, List.drop, List.take, puL, AV.pu, packT, List.set, List.all, AV.one, npL, AV.np, sub, subL, Int.reduceToNat]; (try unfold lim); repeat first | ((with_reducible refine And.intro ?_ ?_); (first | omega | exact ⟨by omega, by omega⟩ | rfl)) | intro _
  refine Fun.lent (os) (by simp only [Int.cast_ofNat_Int, List.map_cons, List.map_nil, pur, geth, Nat.beq, cond_true, cond_false, rdR_byt, rdL, AV.rd, AV.nbV, AV.nb, rdR_cell, rdR_way, rdR_slot, rdR_turn]) (by rfl) rfl rfl rfl ?_; simp only [hT, nneg, beq_self_eq_true, decide_true, decide_false, ↓If_lit, Int.cast_ofNat_Int, Int.reduceLT, Int.reduceLE, eE, bytB, boo, eqK, isC, convK, fitsK, inst, instV, instC, instT, argTm, wpcE, SeqE, BlkE, RndE, wopsE, RetE, RetXE, RetRE, RetGE, resR, stp, bin, binI, numK, dstOf, St.ev, St.put, gtm, geth, seth, setAll, setRow, srcW, bndW, bldW, rowsW, setC, rdR, rdL, remh, Nat.beq, ofVal, resW, absC, pkR, selH, List.headD, List.toArray, AV.cells?, AV.nb, Nat.reduceAdd, Nat.reduceLT, Nat.reduceLeDiff, List.drop, List.take, puL, AV.pu, packT, List.set, List.all, AV.one, npL, AV.np, sub, subL, Int.reduceToNat]; (try unfold lim); repeat first | ((with_reducible refine And.intro ?_ ?_); (first | omega | exact ⟨by omega, by omega⟩ | rfl)) | intro _
  refine Fun.plain (to) rfl rfl rfl rfl ?_; simp only [hT, nneg, beq_self_eq_true, decide_true, decide_false, ↓If_lit, Int.cast_ofNat_Int, Int.reduceLT, Int.reduceLE, eE, bytB, boo, eqK, isC, convK, fitsK, inst, instV, instC, instT, argTm, wpcE, SeqE, BlkE, RndE, wopsE, RetE, RetXE, RetRE, RetGE, resR, stp, bin, binI, numK, dstOf, St.ev, St.put, gtm, geth, seth, setAll, setRow, srcW, bndW, bldW, rowsW, setC, rdR, rdL, remh, Nat.beq, ofVal, resW, absC, pkR, selH, List.headD, List.toArray, AV.cells?, AV.nb, Nat.reduceAdd, Nat.reduceLT, Nat.reduceLeDiff, List.drop, List.take, puL, AV.pu, packT, List.set, List.all, AV.one, npL, AV.np, sub, subL, Int.reduceToNat]; (try unfold lim); repeat first | ((with_reducible refine And.intro ?_ ?_); (first | omega | exact ⟨by omega, by omega⟩ | rfl)) | intro _
  refine Fun.lent (oi) (by simp only [Int.cast_ofNat_Int, List.map_cons, List.map_nil, pur, geth, Nat.beq, cond_true, cond_false, rdR_byt, rdL, AV.rd, AV.nbV, AV.nb, rdR_cell, rdR_way, rdR_slot, rdR_turn]) (by rfl) rfl rfl rfl ?_; simp only [hT, nneg, beq_self_eq_true, decide_true, decide_false, ↓If_lit, Int.cast_ofNat_Int, Int.reduceLT, Int.reduceLE, eE, bytB, boo, eqK, isC, convK, fitsK, inst, instV, instC, instT, argTm, wpcE, SeqE, BlkE, RndE, wopsE, RetE, RetXE, RetRE, RetGE, resR, stp, bin, binI, numK, dstOf, St.ev, St.put, gtm, geth, seth, setAll, setRow, srcW, bndW, bldW, rowsW, setC, rdR, rdL, remh, Nat.beq, ofVal, resW, absC, pkR, selH, List.headD, List.toArray, AV.cells?, AV.nb, Nat.reduceAdd, Nat.reduceLT, Nat.reduceLeDiff, List.drop, List.take, puL, AV.pu, packT, List.set, List.all, AV.one, npL, AV.np, sub, subL, Int.reduceToNat]; (try unfold lim); repeat first | ((with_reducible refine And.intro ?_ ?_); (first | omega | exact ⟨by omega, by omega⟩ | rfl)) | intro _
  refine wpc_draw (.alt 0 (.alt 1 (.alt 2 (.alt 3 (.take 4 .done) .stop) .stop) .stop) (.alt 1 (.alt 0 (.alt 2 (.alt 3 (.take 4 .done) .stop) .stop) (.alt 2 (.alt 0 (.alt 3 (.take 4 .done) .stop) .stop) .stop)) .stop)) hm (by kernel_rfl) ?_
  simp only [hT, wtrE, wthE, hstE, pstE, Pk, eq_self, gOp, ↓If_lit, PCall, lenP, List.getElem?_cons_zero, List.getElem?_cons_succ, Nat.reduceSub, reduceCtorEq, eE, bytB, boo, eqK, isC, convK, fitsK, inst, instV, instC, instT, argTm, wpcE, SeqE, BlkE, RndE, wopsE, RetE, RetXE, RetRE, RetGE, resR, stp, bin, binI, numK, dstOf, St.ev, St.put, gtm, geth, seth, setAll, setRow, srcW, bndW, bldW, rowsW, setC, rdR, rdL, remh, Nat.beq, ofVal, resW, absC, pkR, selH, List.headD, List.toArray, AV.cells?, AV.nb, Nat.reduceAdd, Nat.reduceLT, Nat.reduceLeDiff, List.drop, List.take, puL, AV.pu, packT, List.set, List.all, AV.one, npL, AV.np, sub, subL, Int.reduceToNat]
  refine ⟨?_, ?_, ?_⟩
  all_goals
    refine Fun.plain to rfl rfl rfl rfl ?_
    simp only [hT, ↓If_lit, wtrE, wthE, hstE, pstE, Pk, eq_self, gOp, ↓If_lit, PCall, lenP, List.getElem?_cons_zero, List.getElem?_cons_succ, Nat.reduceSub, reduceCtorEq, eE, bytB, boo, eqK, isC, convK, fitsK, inst, instV, instC, instT, argTm, wpcE, SeqE, BlkE, RndE, wopsE, RetE, RetXE, RetRE, RetGE, resR, stp, bin, binI, numK, dstOf, St.ev, St.put, gtm, geth, seth, setAll, setRow, srcW, bndW, bldW, rowsW, setC, rdR, rdL, remh, Nat.beq, ofVal, resW, absC, pkR, selH, List.headD, List.toArray, AV.cells?, AV.nb, Nat.reduceAdd, Nat.reduceLT, Nat.reduceLeDiff, List.drop, List.take, puL, AV.pu, packT, List.set, List.all, AV.one, npL, AV.np, sub, subL, Int.reduceToNat]
    refine Fun.lent eq (by simp only [Int.cast_ofNat_Int, List.map_cons, List.map_nil, pur, geth, Nat.beq, cond_true, cond_false, rdR_byt, rdL, AV.rd, AV.nbV, AV.nb, rdR_cell, rdR_way, rdR_slot, rdR_turn]) (by rfl) rfl rfl rfl ?_
    simp only [hT, ↓If_lit, wtrE, wthE, hstE, pstE, Pk, eq_self, gOp, ↓If_lit, PCall, lenP, List.getElem?_cons_zero, List.getElem?_cons_succ, Nat.reduceSub, reduceCtorEq, eE, bytB, boo, eqK, isC, convK, fitsK, inst, instV, instC, instT, argTm, wpcE, SeqE, BlkE, RndE, wopsE, RetE, RetXE, RetRE, RetGE, resR, stp, bin, binI, numK, dstOf, St.ev, St.put, gtm, geth, seth, setAll, setRow, srcW, bndW, bldW, rowsW, setC, rdR, rdL, remh, Nat.beq, ofVal, resW, absC, pkR, selH, List.headD, List.toArray, AV.cells?, AV.nb, Nat.reduceAdd, Nat.reduceLT, Nat.reduceLeDiff, List.drop, List.take, puL, AV.pu, packT, List.set, List.all, AV.one, npL, AV.np, sub, subL, Int.reduceToNat]
end Go.Proofs.YtnhcchmbdkiodaaGreat.C
