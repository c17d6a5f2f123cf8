/- Whether a way stays on its node, by both texts. -/
import Derived.Test.YtnhcchmbdkiodaaGreatCPlnK
set_option maxRecDepth 100000
set_option maxHeartbeats 4000000
set_option linter.unusedSimpArgs false
set_option linter.unusedVariables false
namespace Go.Proofs.YtnhcchmbdkiodaaGreat.C
open Go Go.Av Go.Proofs
theorem res_ok {p : VPln} (h : res p = none) : ∀ j, j < 15 → chk p j = none := by
  unfold res at h
  rw [List.findSome?_eq_none_iff] at h
  intro j hj
  exact h j (by simpa using hj)
theorem res_ways {p : VPln} (h : res p = none) : ∀ k, k < p.ways.length → has (p.way k).1 p.cells.length = true ∧ has (p.way k).2.1 p.cells.length = true := fun k hk => bad7_has (first_ok (res_ok h 6 (by omega)) k hk)
def ends (p : VPln) (w : Int) : Int := (p.cell (p.way w.toNat).2.1.toNat).1
def lcl (p : VPln) (w : Int) : Bool := (res p).isNone && (has w p.ways.length && decide (begins p w = ends p w))
theorem TY_endsI {P : Program} (hP : P = Tryz.prog) : (((P.follows .mixedOrders = true) ∧ (fldT P 34 3 = some ((3, (false, 1))))) ∧ ((tyT P 30 = some ((false, 1))) ∧ ((fldT P 34 4 = some ((4, (false, 1)))) ∧ (tyT P 31 = some ((false, 1)))))) ∧ (((elT P 31 = some ((true, (5, 56)))) ∧ (fldT P 70 1 = some ((1, (false, 1))))) ∧ ((tyT P 3 = some ((false, 1))) ∧ ((elT P 30 = some ((true, (5, 56)))) ∧ (fldT P 90 0 = some ((0, (false, 1))))))) := by subst hP; refine ⟨⟨⟨?_, ?_⟩, ⟨?_, ⟨?_, ?_⟩⟩⟩, ⟨⟨?_, ?_⟩, ⟨?_, ⟨?_, ?_⟩⟩⟩⟩ <;> kernel_rfl
theorem endsI {P : Program} [Known P] (hP : P = Tryz.prog) (p : VPln) (w : Int) (hw : has w p.ways.length = true) (h1 : has (p.way w.toNat).2.1 p.cells.length = true) : Fun P 80 [.rp (plnS p), .int .i64 w] (.int .i64 (ends p w)) := by
  refine fun_of (fn := Tryz.f80) (hP ▸ Tryz.func80) (by kernel_rfl) (by kernel_rfl) (by kernel_rfl) (by kernel_rfl) ?_
  have hT := TY_endsI hP
  have hm : P.follows .mixedOrders = true := by subst hP; kernel_rfl
  clear hP
  intro hl
  clear hl
  obtain ⟨h0, h0'⟩ := has_iff hw
  obtain ⟨h1, h1'⟩ := has_iff h1
  have hg : ∀ d, (p.ways.map wayS).getD w.toNat d = wayS (p.way w.toNat) := fun d => getIn wayS p.ways _ d w0 (by omega)
  have g1 : ∀ d, (p.cells.map cellS).getD (p.way w.toNat).2.1.toNat d = cellS (p.cell (p.way w.toNat).2.1.toNat) := fun d => getIn cellS p.cells _ d c0 (by omega)
  simp only [plnS, Tryz.f80, hT, eE, bytB, boo, eqK, isC, convK, fitsK, inst, instV, instC, instT, argTm, wpcE, SeqE, BlkE, RndE, wopsE, RetE, RetXE, RetRE, RetGE, resR, stp, bin, binI, numK, dstOf, St.ev, St.put, gtm, geth, seth, setAll, setRow, srcW, bndW, bldW, rowsW, setC, rdR, rdL, remh, Nat.beq, ofVal, resW, absC, pkR, selH, List.headD, List.toArray, AV.cells?, AV.nb, Nat.reduceAdd, Nat.reduceLT, Nat.reduceLeDiff, List.drop, List.take, puL, AV.pu, packT, List.set, List.all, AV.one, npL, AV.np, sub, subL, Int.reduceToNat]
  refine wpc_read [0, 1, 2, 3, 4, 5, 6, 7, 8, 9, 10, 11, 12, 13, 14, 15] hm (by kernel_rfl) ?_
  simp only [hT, hg, wayS, g1, cellS, wtrE, wthE, hstE, pstE, Pk, eq_self, gOp, ↓If_lit, lenP, List.getElem?_cons_zero, List.getElem?_cons_succ, Nat.reduceSub, reduceCtorEq, eE, bytB, boo, eqK, isC, convK, fitsK, inst, instV, instC, instT, argTm, wpcE, SeqE, BlkE, RndE, wopsE, RetE, RetXE, RetRE, RetGE, resR, stp, bin, binI, numK, dstOf, St.ev, St.put, gtm, geth, seth, setAll, setRow, srcW, bndW, bldW, rowsW, setC, rdR, rdL, remh, Nat.beq, ofVal, resW, absC, pkR, selH, List.headD, List.toArray, AV.cells?, AV.nb, Nat.reduceAdd, Nat.reduceLT, Nat.reduceLeDiff, List.drop, List.take, puL, AV.pu, packT, List.set, List.all, AV.one, npL, AV.np, sub, subL, Int.reduceToNat]
  (try unfold lim); repeat first | ((with_reducible refine And.intro ?_ ?_); (first | omega | exact ⟨by omega, by omega⟩ | rfl)) | intro _
  rfl
theorem TY_staysI {P : Program} (hP : P = Tryz.prog) : True := trivial
theorem staysI {P : Program} [Known P] (hP : P = Tryz.prog) (p : VPln) (w : Int) (hw : has w p.ways.length = true) (h1 : has (p.way w.toNat).1 p.cells.length = true) (h2 : has (p.way w.toNat).2.1 p.cells.length = true) : Fun P 39 [.rp (plnS p), .int .i64 w] (.bool (decide (begins p w = ends p w))) := by
  refine fun_of (fn := Tryz.f39) (hP ▸ Tryz.func39) (by kernel_rfl) (by kernel_rfl) (by kernel_rfl) (by kernel_rfl) ?_
  have hT := TY_staysI hP
  have hm : P.follows .mixedOrders = true := by subst hP; kernel_rfl
  have b := beginsI hP p w hw h1
  have n := endsI hP p w hw h2
  clear hP
  intro hl
  clear hl
  simp only [Tryz.f39, hT, eE, bytB, boo, eqK, isC, convK, fitsK, inst, instV, instC, instT, argTm, wpcE, SeqE, BlkE, RndE, wopsE, RetE, RetXE, RetRE, RetGE, resR, stp, bin, binI, numK, dstOf, St.ev, St.put, gtm, geth, seth, setAll, setRow, srcW, bndW, bldW, rowsW, setC, rdR, rdL, remh, Nat.beq, ofVal, resW, absC, pkR, selH, List.headD, List.toArray, AV.cells?, AV.nb, Nat.reduceAdd, Nat.reduceLT, Nat.reduceLeDiff, List.drop, List.take, puL, AV.pu, packT, List.set, List.all, AV.one, npL, AV.np, sub, subL, Int.reduceToNat]
  refine Fun.plain (b) rfl rfl rfl rfl ?_; simp only [hT, nneg, beq_self_eq_true, decide_true, decide_false, ↓If_lit, Int.cast_ofNat_Int, Int.reduceLT, Int.reduceLE, eE, bytB, boo, eqK, isC, convK, fitsK, inst, instV, instC, instT, argTm, wpcE, SeqE, BlkE, RndE, wopsE, RetE, RetXE, RetRE, RetGE, resR, stp, bin, binI, numK, dstOf, St.ev, St.put, gtm, geth, seth, setAll, setRow, srcW, bndW, bldW, rowsW, setC, rdR, rdL, remh, Nat.beq, ofVal, resW, absC, pkR, selH, List.headD, List.toArray, AV.cells?, AV.nb, Nat.reduceAdd, Nat.reduceLT, Nat.reduceLeDiff, List.drop, List.take, puL, AV.pu, packT, List.set, List.all, AV.one, npL, AV.np, sub, subL, Int.reduceToNat]; (try unfold lim); repeat first | ((with_reducible refine And.intro ?_ ?_); (first | omega | exact ⟨by omega, by omega⟩ | rfl)) | intro _
  refine Fun.plain (n) rfl rfl rfl rfl ?_; simp only [hT, nneg, beq_self_eq_true, decide_true, decide_false, ↓If_lit, Int.cast_ofNat_Int, Int.reduceLT, Int.reduceLE, eE, bytB, boo, eqK, isC, convK, fitsK, inst, instV, instC, instT, argTm, wpcE, SeqE, BlkE, RndE, wopsE, RetE, RetXE, RetRE, RetGE, resR, stp, bin, binI, numK, dstOf, St.ev, St.put, gtm, geth, seth, setAll, setRow, srcW, bndW, bldW, rowsW, setC, rdR, rdL, remh, Nat.beq, ofVal, resW, absC, pkR, selH, List.headD, List.toArray, AV.cells?, AV.nb, Nat.reduceAdd, Nat.reduceLT, Nat.reduceLeDiff, List.drop, List.take, puL, AV.pu, packT, List.set, List.all, AV.one, npL, AV.np, sub, subL, Int.reduceToNat]; (try unfold lim); repeat first | ((with_reducible refine And.intro ?_ ?_); (first | omega | exact ⟨by omega, by omega⟩ | rfl)) | intro _
theorem TY_localS {P : Program} (hP : P = Tryz.prog) : (((P.follows .mixedOrders = true) ∧ (fldT P 34 3 = some ((3, (false, 1))))) ∧ ((tyT P 30 = some ((false, 1))) ∧ ((fldT P 34 4 = some ((4, (false, 1)))) ∧ (tyT P 31 = some ((false, 1)))))) ∧ (((elT P 31 = some ((true, (5, 56)))) ∧ ((fldT P 70 0 = some ((0, (false, 1)))) ∧ (tyT P 3 = some ((false, 1))))) ∧ ((elT P 30 = some ((true, (5, 56)))) ∧ ((fldT P 90 0 = some ((0, (false, 1)))) ∧ (fldT P 70 1 = some ((1, (false, 1))))))) := by subst hP; refine ⟨⟨⟨?_, ?_⟩, ⟨?_, ⟨?_, ?_⟩⟩⟩, ⟨⟨?_, ⟨?_, ?_⟩⟩, ⟨?_, ⟨?_, ?_⟩⟩⟩⟩ <;> kernel_rfl
theorem localS {P : Program} [Known P] (hP : P = Tryz.prog) (p : VPln) (w : Int) (hw : has w p.ways.length = true) (h1 : has (p.way w.toNat).1 p.cells.length = true) (h2 : has (p.way w.toNat).2.1 p.cells.length = true) : Fun P 37 [.agg (plnS p), .int .i64 w] (.bool (decide (begins p w = ends p w))) := by
  refine fun_of (fn := Tryz.f37) (hP ▸ Tryz.func37) (by kernel_rfl) (by kernel_rfl) (by kernel_rfl) (by kernel_rfl) ?_
  have hT := TY_localS hP
  have hm : P.follows .mixedOrders = true := by subst hP; kernel_rfl
  clear hP
  intro hl
  clear hl
  obtain ⟨h0, h0'⟩ := has_iff hw
  obtain ⟨h1, h1'⟩ := has_iff h1
  obtain ⟨h2, h2'⟩ := has_iff h2
  have hg : ∀ d, (p.ways.map wayS).getD w.toNat d = wayS (p.way w.toNat) := fun d => getIn wayS p.ways _ d w0 (by omega)
  have g1 : ∀ d, (p.cells.map cellS).getD (p.way w.toNat).1.toNat d = cellS (p.cell (p.way w.toNat).1.toNat) := fun d => getIn cellS p.cells _ d c0 (by omega)
  have g2 : ∀ d, (p.cells.map cellS).getD (p.way w.toNat).2.1.toNat d = cellS (p.cell (p.way w.toNat).2.1.toNat) := fun d => getIn cellS p.cells _ d c0 (by omega)
  simp only [plnS, Tryz.f37, hT, eE, bytB, boo, eqK, isC, convK, fitsK, inst, instV, instC, instT, argTm, wpcE, SeqE, BlkE, RndE, wopsE, RetE, RetXE, RetRE, RetGE, resR, stp, bin, binI, numK, dstOf, St.ev, St.put, gtm, geth, seth, setAll, setRow, srcW, bndW, bldW, rowsW, setC, rdR, rdL, remh, Nat.beq, ofVal, resW, absC, pkR, selH, List.headD, List.toArray, AV.cells?, AV.nb, Nat.reduceAdd, Nat.reduceLT, Nat.reduceLeDiff, List.drop, List.take, puL, AV.pu, packT, List.set, List.all, AV.one, npL, AV.np, sub, subL, Int.reduceToNat]
  refine wpc_read [0, 1, 2, 3, 4, 5, 6, 7, 8, 9, 10, 11, 12, 13, 14, 15, 16, 17, 18, 19, 20, 21, 22, 23] hm (by kernel_rfl) ?_
  simp only [hT, hg, wayS, g1, g2, cellS, wtrE, wthE, hstE, pstE, Pk, eq_self, gOp, ↓If_lit, lenP, List.getElem?_cons_zero, List.getElem?_cons_succ, Nat.reduceSub, reduceCtorEq, eE, bytB, boo, eqK, isC, convK, fitsK, inst, instV, instC, instT, argTm, wpcE, SeqE, BlkE, RndE, wopsE, RetE, RetXE, RetRE, RetGE, resR, stp, bin, binI, numK, dstOf, St.ev, St.put, gtm, geth, seth, setAll, setRow, srcW, bndW, bldW, rowsW, setC, rdR, rdL, remh, Nat.beq, ofVal, resW, absC, pkR, selH, List.headD, List.toArray, AV.cells?, AV.nb, Nat.reduceAdd, Nat.reduceLT, Nat.reduceLeDiff, List.drop, List.take, puL, AV.pu, packT, List.set, List.all, AV.one, npL, AV.np, sub, subL, Int.reduceToNat]
  (try unfold lim); repeat first | ((with_reducible refine And.intro ?_ ?_); (first | omega | exact ⟨by omega, by omega⟩ | rfl)) | intro _
  rfl
theorem TY_plnLocalI {P : Program} (hP : P = Tryz.prog) : ((tyT P 34 = some ((true, 7))) ∧ (fldT P 34 4 = some ((4, (false, 1))))) ∧ ((tyT P 31 = some ((false, 1))) ∧ (lkT P 31 = 1)) := by subst hP; refine ⟨⟨?_, ?_⟩, ⟨?_, ?_⟩⟩ <;> kernel_rfl
theorem plnLocalI {P : Program} [Known P] (hP : P = Tryz.prog) (p : VPln) (hs : Sz p) (w : Int) : Fun P 13 [.agg (plnS p), .int .i64 w] (.bool (lcl p w)) := by
  refine fun_of (fn := Tryz.f13) (hP ▸ Tryz.func13) (by kernel_rfl) (by kernel_rfl) (by kernel_rfl) (by kernel_rfl) ?_
  have hT := TY_plnLocalI hP
  have hm : P.follows .mixedOrders = true := by subst hP; kernel_rfl
  have ok := plnOkI hP p hs
  have ha := plnHas hP w p.ways.length
  have st := staysI hP p w
  clear hP
  intro hl
  clear hl
  have hw := hs.w
  unfold lcl
  simp only [plnS] at ok
  simp only [plnS, Tryz.f13, hT, eE, bytB, boo, eqK, isC, convK, fitsK, inst, instV, instC, instT, argTm, wpcE, SeqE, BlkE, RndE, wopsE, RetE, RetXE, RetRE, RetGE, resR, stp, bin, binI, numK, dstOf, St.ev, St.put, gtm, geth, seth, setAll, setRow, srcW, bndW, bldW, rowsW, setC, rdR, rdL, remh, Nat.beq, ofVal, resW, absC, pkR, selH, List.headD, List.toArray, AV.cells?, AV.nb, Nat.reduceAdd, Nat.reduceLT, Nat.reduceLeDiff, List.drop, List.take, puL, AV.pu, packT, List.set, List.all, AV.one, npL, AV.np, sub, subL, Int.reduceToNat]
  refine Fun.plain (ok) rfl rfl rfl rfl ?_; simp only [hT, nneg, beq_self_eq_true, decide_true, decide_false, ↓If_lit, Int.cast_ofNat_Int, Int.reduceLT, Int.reduceLE, eE, bytB, boo, eqK, isC, convK, fitsK, inst, instV, instC, instT, argTm, wpcE, SeqE, BlkE, RndE, wopsE, RetE, RetXE, RetRE, RetGE, resR, stp, bin, binI, numK, dstOf, St.ev, St.put, gtm, geth, seth, setAll, setRow, srcW, bndW, bldW, rowsW, setC, rdR, rdL, remh, Nat.beq, ofVal, resW, absC, pkR, selH, List.headD, List.toArray, AV.cells?, AV.nb, Nat.reduceAdd, Nat.reduceLT, Nat.reduceLeDiff, List.drop, List.take, puL, AV.pu, packT, List.set, List.all, AV.one, npL, AV.np, sub, subL, Int.reduceToNat]; (try unfold lim); repeat first | ((with_reducible refine And.intro ?_ ?_); (first | omega | exact ⟨by omega, by omega⟩ | rfl)) | intro _
  cases e : res p with
  | some x =>
    simp only [Option.isNone_some, ↓If_lit, hT, eE, bytB, boo, eqK, isC, convK, fitsK, inst, instV, instC, instT, argTm, wpcE, SeqE, BlkE, RndE, wopsE, RetE, RetXE, RetRE, RetGE, resR, stp, bin, binI, numK, dstOf, St.ev, St.put, gtm, geth, seth, setAll, setRow, srcW, bndW, bldW, rowsW, setC, rdR, rdL, remh, Nat.beq, ofVal, resW, absC, pkR, selH, List.headD, List.toArray, AV.cells?, AV.nb, Nat.reduceAdd, Nat.reduceLT, Nat.reduceLeDiff, List.drop, List.take, puL, AV.pu, packT, List.set, List.all, AV.one, npL, AV.np, sub, subL, Int.reduceToNat]
  | none =>
    have h7 := res_ways e
    simp only [Option.isNone_none, ↓If_lit, hT, eE, bytB, boo, eqK, isC, convK, fitsK, inst, instV, instC, instT, argTm, wpcE, SeqE, BlkE, RndE, wopsE, RetE, RetXE, RetRE, RetGE, resR, stp, bin, binI, numK, dstOf, St.ev, St.put, gtm, geth, seth, setAll, setRow, srcW, bndW, bldW, rowsW, setC, rdR, rdL, remh, Nat.beq, ofVal, resW, absC, pkR, selH, List.headD, List.toArray, AV.cells?, AV.nb, Nat.reduceAdd, Nat.reduceLT, Nat.reduceLeDiff, List.drop, List.take, puL, AV.pu, packT, List.set, List.all, AV.one, npL, AV.np, sub, subL, Int.reduceToNat]
    (try unfold lim); repeat first | ((with_reducible refine And.intro ?_ ?_); (first | omega | exact ⟨by omega, by omega⟩ | rfl)) | intro _
    refine Fun.plain (ha) rfl rfl rfl rfl ?_; simp only [hT, nneg, beq_self_eq_true, decide_true, decide_false, ↓If_lit, Int.cast_ofNat_Int, Int.reduceLT, Int.reduceLE, eE, bytB, boo, eqK, isC, convK, fitsK, inst, instV, instC, instT, argTm, wpcE, SeqE, BlkE, RndE, wopsE, RetE, RetXE, RetRE, RetGE, resR, stp, bin, binI, numK, dstOf, St.ev, St.put, gtm, geth, seth, setAll, setRow, srcW, bndW, bldW, rowsW, setC, rdR, rdL, remh, Nat.beq, ofVal, resW, absC, pkR, selH, List.headD, List.toArray, AV.cells?, AV.nb, Nat.reduceAdd, Nat.reduceLT, Nat.reduceLeDiff, List.drop, List.take, puL, AV.pu, packT, List.set, List.all, AV.one, npL, AV.np, sub, subL, Int.reduceToNat]; (try unfold lim); repeat first | ((with_reducible refine And.intro ?_ ?_); (first | omega | exact ⟨by omega, by omega⟩ | rfl)) | intro _
    refine ⟨fun q => ?_, fun q => by rw [q]; rfl⟩
    obtain ⟨b0, b1⟩ := has_iff q
    have st := st q (h7 _ (by omega)).1 (h7 _ (by omega)).2
    simp only [plnS] at st
    refine Fun.lent (st) (by first | (simp only [Int.cast_ofNat_Int, List.map_cons, List.map_nil, pur, geth, Nat.beq, cond_true, cond_false, rdR_byt, rdL, AV.rd, AV.nbV, AV.nb]; done) | rfl) (by first | (simp only [Int.cast_ofNat_Int, List.map_cons, List.map_nil, pur, geth, Nat.beq, cond_true, cond_false, rdR_byt, rdL, AV.rd, AV.nbV, AV.nb, npL, AV.np, Bool.and_self]; done) | rfl) rfl rfl (by first | rfl | simp only [AV.na, naL, naR_byt, Bool.and_self]) ?_; simp only [hT, nneg, beq_self_eq_true, decide_true, decide_false, ↓If_lit, Int.cast_ofNat_Int, Int.reduceLT, Int.reduceLE, eE, bytB, boo, eqK, isC, convK, fitsK, inst, instV, instC, instT, argTm, wpcE, SeqE, BlkE, RndE, wopsE, RetE, RetXE, RetRE, RetGE, resR, stp, bin, binI, numK, dstOf, St.ev, St.put, gtm, geth, seth, setAll, setRow, srcW, bndW, bldW, rowsW, setC, rdR, rdL, remh, Nat.beq, ofVal, resW, absC, pkR, selH, List.headD, List.toArray, AV.cells?, AV.nb, Nat.reduceAdd, Nat.reduceLT, Nat.reduceLeDiff, List.drop, List.take, puL, AV.pu, packT, List.set, List.all, AV.one, npL, AV.np, sub, subL, Int.reduceToNat]; (try unfold lim); repeat first | ((with_reducible refine And.intro ?_ ?_); (first | omega | exact ⟨by omega, by omega⟩ | rfl)) | intro _
    rw [q]; rfl
theorem TY_plnLocalS {P : Program} (hP : P = Tryz.prog) : ((tyT P 34 = some ((true, 7))) ∧ (fldT P 34 4 = some ((4, (false, 1))))) ∧ ((tyT P 31 = some ((false, 1))) ∧ (lkT P 31 = 1)) := by subst hP; refine ⟨⟨?_, ?_⟩, ⟨?_, ?_⟩⟩ <;> kernel_rfl
theorem plnLocalS {P : Program} [Known P] (hP : P = Tryz.prog) (p : VPln) (hs : Sz p) (w : Int) : Fun P 12 [.agg (plnS p), .int .i64 w] (.bool (lcl p w)) := by
  refine fun_of (fn := Tryz.f12) (hP ▸ Tryz.func12) (by kernel_rfl) (by kernel_rfl) (by kernel_rfl) (by kernel_rfl) ?_
  have hT := TY_plnLocalS hP
  have hm : P.follows .mixedOrders = true := by subst hP; kernel_rfl
  have ok := plnOkS hP p hs
  have ha := l1h hP w p.ways.length
  have st := localS hP p w
  clear hP
  intro hl
  clear hl
  have hw := hs.w
  unfold lcl
  simp only [plnS] at ok
  simp only [plnS, Tryz.f12, hT, eE, bytB, boo, eqK, isC, convK, fitsK, inst, instV, instC, instT, argTm, wpcE, SeqE, BlkE, RndE, wopsE, RetE, RetXE, RetRE, RetGE, resR, stp, bin, binI, numK, dstOf, St.ev, St.put, gtm, geth, seth, setAll, setRow, srcW, bndW, bldW, rowsW, setC, rdR, rdL, remh, Nat.beq, ofVal, resW, absC, pkR, selH, List.headD, List.toArray, AV.cells?, AV.nb, Nat.reduceAdd, Nat.reduceLT, Nat.reduceLeDiff, List.drop, List.take, puL, AV.pu, packT, List.set, List.all, AV.one, npL, AV.np, sub, subL, Int.reduceToNat]
  refine Fun.plain (ok) rfl rfl rfl rfl ?_; simp only [hT, nneg, beq_self_eq_true, decide_true, decide_false, ↓If_lit, Int.cast_ofNat_Int, Int.reduceLT, Int.reduceLE, eE, bytB, boo, eqK, isC, convK, fitsK, inst, instV, instC, instT, argTm, wpcE, SeqE, BlkE, RndE, wopsE, RetE, RetXE, RetRE, RetGE, resR, stp, bin, binI, numK, dstOf, St.ev, St.put, gtm, geth, seth, setAll, setRow, srcW, bndW, bldW, rowsW, setC, rdR, rdL, remh, Nat.beq, ofVal, resW, absC, pkR, selH, List.headD, List.toArray, AV.cells?, AV.nb, Nat.reduceAdd, Nat.reduceLT, Nat.reduceLeDiff, List.drop, List.take, puL, AV.pu, packT, List.set, List.all, AV.one, npL, AV.np, sub, subL, Int.reduceToNat]; (try unfold lim); repeat first | ((with_reducible refine And.intro ?_ ?_); (first | omega | exact ⟨by omega, by omega⟩ | rfl)) | intro _
  cases e : res p with
  | some x =>
    simp only [Option.isNone_some, ↓If_lit, hT, eE, bytB, boo, eqK, isC, convK, fitsK, inst, instV, instC, instT, argTm, wpcE, SeqE, BlkE, RndE, wopsE, RetE, RetXE, RetRE, RetGE, resR, stp, bin, binI, numK, dstOf, St.ev, St.put, gtm, geth, seth, setAll, setRow, srcW, bndW, bldW, rowsW, setC, rdR, rdL, remh, Nat.beq, ofVal, resW, absC, pkR, selH, List.headD, List.toArray, AV.cells?, AV.nb, Nat.reduceAdd, Nat.reduceLT, Nat.reduceLeDiff, List.drop, List.take, puL, AV.pu, packT, List.set, List.all, AV.one, npL, AV.np, sub, subL, Int.reduceToNat]
  | none =>
    have h7 := res_ways e
    simp only [Option.isNone_none, ↓If_lit, hT, eE, bytB, boo, eqK, isC, convK, fitsK, inst, instV, instC, instT, argTm, wpcE, SeqE, BlkE, RndE, wopsE, RetE, RetXE, RetRE, RetGE, resR, stp, bin, binI, numK, dstOf, St.ev, St.put, gtm, geth, seth, setAll, setRow, srcW, bndW, bldW, rowsW, setC, rdR, rdL, remh, Nat.beq, ofVal, resW, absC, pkR, selH, List.headD, List.toArray, AV.cells?, AV.nb, Nat.reduceAdd, Nat.reduceLT, Nat.reduceLeDiff, List.drop, List.take, puL, AV.pu, packT, List.set, List.all, AV.one, npL, AV.np, sub, subL, Int.reduceToNat]
    (try unfold lim); repeat first | ((with_reducible refine And.intro ?_ ?_); (first | omega | exact ⟨by omega, by omega⟩ | rfl)) | intro _
    refine Fun.plain (ha) rfl rfl rfl rfl ?_; simp only [hT, nneg, beq_self_eq_true, decide_true, decide_false, ↓If_lit, Int.cast_ofNat_Int, Int.reduceLT, Int.reduceLE, eE, bytB, boo, eqK, isC, convK, fitsK, inst, instV, instC, instT, argTm, wpcE, SeqE, BlkE, RndE, wopsE, RetE, RetXE, RetRE, RetGE, resR, stp, bin, binI, numK, dstOf, St.ev, St.put, gtm, geth, seth, setAll, setRow, srcW, bndW, bldW, rowsW, setC, rdR, rdL, remh, Nat.beq, ofVal, resW, absC, pkR, selH, List.headD, List.toArray, AV.cells?, AV.nb, Nat.reduceAdd, Nat.reduceLT, Nat.reduceLeDiff, List.drop, List.take, puL, AV.pu, packT, List.set, List.all, AV.one, npL, AV.np, sub, subL, Int.reduceToNat]; (try unfold lim); repeat first | ((with_reducible refine And.intro ?_ ?_); (first | omega | exact ⟨by omega, by omega⟩ | rfl)) | intro _
    refine ⟨fun q => ?_, fun q => by rw [q]; rfl⟩
    obtain ⟨b0, b1⟩ := has_iff q
    have st := st q (h7 _ (by omega)).1 (h7 _ (by omega)).2
    simp only [plnS] at st
    refine Fun.plain (st) rfl rfl rfl rfl ?_; simp only [hT, nneg, beq_self_eq_true, decide_true, decide_false, ↓If_lit, Int.cast_ofNat_Int, Int.reduceLT, Int.reduceLE, eE, bytB, boo, eqK, isC, convK, fitsK, inst, instV, instC, instT, argTm, wpcE, SeqE, BlkE, RndE, wopsE, RetE, RetXE, RetRE, RetGE, resR, stp, bin, binI, numK, dstOf, St.ev, St.put, gtm, geth, seth, setAll, setRow, srcW, bndW, bldW, rowsW, setC, rdR, rdL, remh, Nat.beq, ofVal, resW, absC, pkR, selH, List.headD, List.toArray, AV.cells?, AV.nb, Nat.reduceAdd, Nat.reduceLT, Nat.reduceLeDiff, List.drop, List.take, puL, AV.pu, packT, List.set, List.all, AV.one, npL, AV.np, sub, subL, Int.reduceToNat]; (try unfold lim); repeat first | ((with_reducible refine And.intro ?_ ?_); (first | omega | exact ⟨by omega, by omega⟩ | rfl)) | intro _
    rw [q]; rfl
def edgeIs (f t : Int) (w : VWay) : Bool := decide (w.1 = f) && decide (w.2.1 = t)
def edge (p : VPln) (f t : Int) : Bool := (res p).isNone && p.ways.any (edgeIs f t)
theorem TY_plnEdgeI {P : Program} (hP : P = Tryz.prog) : (((tyT P 34 = some ((true, 7))) ∧ (fldT P 34 4 = some ((4, (false, 1))))) ∧ ((tyT P 31 = some ((false, 1))) ∧ ((lkT P 31 = 1) ∧ (elT P 31 = some ((true, (5, 56))))))) ∧ (((tyT P 70 = some ((true, 5))) ∧ (zeroT P 70 = some (((.int .i64 0) :: ((.int .i64 0) :: ((.int .i64 0) :: ((.bool false) :: (.nils :: [])))))))) ∧ ((fldT P 70 0 = some ((0, (false, 1)))) ∧ ((tyT P 3 = some ((false, 1))) ∧ (fldT P 70 1 = some ((1, (false, 1))))))) := by subst hP; refine ⟨⟨⟨?_, ?_⟩, ⟨?_, ⟨?_, ?_⟩⟩⟩, ⟨⟨?_, ?_⟩, ⟨?_, ⟨?_, ?_⟩⟩⟩⟩ <;> kernel_rfl
theorem plnEdgeI {P : Program} [Known P] (hP : P = Tryz.prog) (p : VPln) (hs : Sz p) (f t : Int) : Fun P 15 [.agg (plnS p), .int .i64 f, .int .i64 t] (.bool (edge p f t)) := by
  refine fun_of (fn := Tryz.f15) (hP ▸ Tryz.func15) (by kernel_rfl) (by kernel_rfl) (by kernel_rfl) (by kernel_rfl) ?_
  have hT := TY_plnEdgeI hP
  have hm : P.follows .mixedOrders = true := by subst hP; kernel_rfl
  have ok := plnOkI hP p hs
  clear hP
  intro hl
  clear hl
  have hw := hs.w
  unfold edge
  simp only [plnS] at ok
  simp only [plnS, Tryz.f15, hT, eE, bytB, boo, eqK, isC, convK, fitsK, inst, instV, instC, instT, argTm, wpcE, SeqE, BlkE, RndE, wopsE, RetE, RetXE, RetRE, RetGE, resR, stp, bin, binI, numK, dstOf, St.ev, St.put, gtm, geth, seth, setAll, setRow, srcW, bndW, bldW, rowsW, setC, rdR, rdL, remh, Nat.beq, ofVal, resW, absC, pkR, selH, List.headD, List.toArray, AV.cells?, AV.nb, Nat.reduceAdd, Nat.reduceLT, Nat.reduceLeDiff, List.drop, List.take, puL, AV.pu, packT, List.set, List.all, AV.one, npL, AV.np, sub, subL, Int.reduceToNat]
  refine Fun.plain (ok) rfl rfl rfl rfl ?_; simp only [hT, nneg, beq_self_eq_true, decide_true, decide_false, ↓If_lit, Int.cast_ofNat_Int, Int.reduceLT, Int.reduceLE, eE, bytB, boo, eqK, isC, convK, fitsK, inst, instV, instC, instT, argTm, wpcE, SeqE, BlkE, RndE, wopsE, RetE, RetXE, RetRE, RetGE, resR, stp, bin, binI, numK, dstOf, St.ev, St.put, gtm, geth, seth, setAll, setRow, srcW, bndW, bldW, rowsW, setC, rdR, rdL, remh, Nat.beq, ofVal, resW, absC, pkR, selH, List.headD, List.toArray, AV.cells?, AV.nb, Nat.reduceAdd, Nat.reduceLT, Nat.reduceLeDiff, List.drop, List.take, puL, AV.pu, packT, List.set, List.all, AV.one, npL, AV.np, sub, subL, Int.reduceToNat]; (try unfold lim); repeat first | ((with_reducible refine And.intro ?_ ?_); (first | omega | exact ⟨by omega, by omega⟩ | rfl)) | intro _
  cases e : res p with
  | some x =>
    simp only [Option.isNone_some, Bool.not_false, ↓If_lit, hT, eE, bytB, boo, eqK, isC, convK, fitsK, inst, instV, instC, instT, argTm, wpcE, SeqE, BlkE, RndE, wopsE, RetE, RetXE, RetRE, RetGE, resR, stp, bin, binI, numK, dstOf, St.ev, St.put, gtm, geth, seth, setAll, setRow, srcW, bndW, bldW, rowsW, setC, rdR, rdL, remh, Nat.beq, ofVal, resW, absC, pkR, selH, List.headD, List.toArray, AV.cells?, AV.nb, Nat.reduceAdd, Nat.reduceLT, Nat.reduceLeDiff, List.drop, List.take, puL, AV.pu, packT, List.set, List.all, AV.one, npL, AV.np, sub, subL, Int.reduceToNat]
  | none =>
    simp only [Option.isNone_none, Bool.not_true, ↓If_lit, hT, eE, bytB, boo, eqK, isC, convK, fitsK, inst, instV, instC, instT, argTm, wpcE, SeqE, BlkE, RndE, wopsE, RetE, RetXE, RetRE, RetGE, resR, stp, bin, binI, numK, dstOf, St.ev, St.put, gtm, geth, seth, setAll, setRow, srcW, bndW, bldW, rowsW, setC, rdR, rdL, remh, Nat.beq, ofVal, resW, absC, pkR, selH, List.headD, List.toArray, AV.cells?, AV.nb, Nat.reduceAdd, Nat.reduceLT, Nat.reduceLeDiff, List.drop, List.take, puL, AV.pu, packT, List.set, List.all, AV.one, npL, AV.np, sub, subL, Int.reduceToNat]
    (try unfold lim); repeat first | ((with_reducible refine And.intro ?_ ?_); (first | omega | exact ⟨by omega, by omega⟩ | rfl)) | intro _
    refine wpc_loop {i : Nat // i ≤ p.ways.length ∧ ∀ j, j < i → edgeIs f t (p.way j) = false} (fun i => ⟨[(1, .int .i64 f), (2, .int .i64 t), (13, .sl 5 (p.ways.map wayS) wZ), (14, .int .i64 p.ways.length), (15, .int .i64 i.1)], [], 0⟩) (fun i => p.ways.length - i.1) ⟨0, Nat.zero_le _, fun j hj => absurd hj (by omega)⟩ (Le.of [] (Nat.zero_le _) ?_ ?_ ?_) ?_
    · simp only [leT, Nat.le_refl, List.map_nil, eq_self, and_self,  leH, leO, leR, leN, lkR, ren, renL, nbl, nblL, gtm, geth, remh, sub, subL, Nat.beq, cond_true, cond_false, true_and, and_true, Nat.reduceLT, Nat.lt_add_one, Nat.zero_lt_one, Nat.zero_le, Nat.zero_add]
    · simp only [leT, Nat.le_refl, List.map_nil, eq_self, and_self,  leH, leO, leR, leN, lkR, ren, renL, nbl, nblL, gtm, geth, remh, sub, subL, Nat.beq, cond_true, cond_false, true_and, and_true, Nat.reduceLT, Nat.lt_add_one, Nat.zero_lt_one, Nat.zero_le, Nat.zero_add] <;> rfl
    · simp only [plnS, leT, Nat.le_refl, List.map_nil, eq_self, and_self,  leH, leO, leR, leN, lkR, ren, renL, nbl, nblL, gtm, geth, remh, sub, subL, Nat.beq, cond_true, cond_false, true_and, and_true, Nat.reduceLT, Nat.lt_add_one, Nat.zero_lt_one, Nat.zero_le, Nat.zero_add]
    · rintro ⟨i, hi, hp⟩
      by_cases hil : i < p.ways.length
      · have hlt' : decide ((i : Int) < p.ways.length) = true := decide_eq_true (by omega)
        have hg : ∀ d, (p.ways.map wayS).getD i d = wayS (p.way i) := fun d => getIn wayS p.ways i d w0 hil
        have yes : edgeIs f t (p.way i) = true → p.ways.any (edgeIs f t) = true := fun h => any_at w0 hil h
        have go : edgeIs f t (p.way i) = false → ∃ x' : {i : Nat // i ≤ p.ways.length ∧ ∀ j, j < i → edgeIs f t (p.way j) = false}, x'.val = i + 1 := fun h => ⟨⟨i + 1, hil, upto hp h⟩, rfl⟩
        simp only [plnS, hlt', hg, wayS, ↓If_lit, hT, eE, bytB, boo, eqK, isC, convK, fitsK, inst, instV, instC, instT, argTm, wpcE, SeqE, BlkE, RndE, wopsE, RetE, RetXE, RetRE, RetGE, resR, stp, bin, binI, numK, dstOf, St.ev, St.put, gtm, geth, seth, setAll, setRow, srcW, bndW, bldW, rowsW, setC, rdR, rdL, remh, Nat.beq, ofVal, resW, absC, pkR, selH, List.headD, List.toArray, AV.cells?, AV.nb, Nat.reduceAdd, Nat.reduceLT, Nat.reduceLeDiff, List.drop, List.take, puL, AV.pu, packT, List.set, List.all, AV.one, npL, AV.np, sub, subL, Int.reduceToNat]
        (try unfold lim); repeat first | ((with_reducible refine And.intro ?_ ?_); (first | omega | exact ⟨by omega, by omega⟩ | rfl)) | intro _
        refine ⟨fun q => ?_, fun q => ?_⟩
        · (try unfold lim); repeat first | ((with_reducible refine And.intro ?_ ?_); (first | omega | exact ⟨by omega, by omega⟩ | rfl)) | intro _
          refine ⟨fun q2 => ?_, fun q2 => ?_⟩
          · rw [yes (by unfold edgeIs; rw [q, q2]; rfl)]
          · obtain ⟨x', hx⟩ := go (by unfold edgeIs; rw [q, q2]; rfl)
            refine ⟨⟨by omega, by omega⟩, x', by omega, Le.of [] (Nat.zero_le _) ?_ ?_ ?_⟩ <;> simp only [plnS, leT, Nat.le_refl, List.map_nil, eq_self, and_self,  leH, leO, leR, leN, lkR, ren, renL, nbl, nblL, gtm, geth, remh, sub, subL, Nat.beq, cond_true, cond_false, true_and, and_true, Nat.reduceLT, Nat.lt_add_one, Nat.zero_lt_one, Nat.zero_le, Nat.zero_add] <;> omega
        · obtain ⟨x', hx⟩ := go (by unfold edgeIs; rw [q]; rfl)
          refine ⟨⟨by omega, by omega⟩, x', by omega, Le.of [] (Nat.zero_le _) ?_ ?_ ?_⟩ <;> simp only [plnS, leT, Nat.le_refl, List.map_nil, eq_self, and_self,  leH, leO, leR, leN, lkR, ren, renL, nbl, nblL, gtm, geth, remh, sub, subL, Nat.beq, cond_true, cond_false, true_and, and_true, Nat.reduceLT, Nat.lt_add_one, Nat.zero_lt_one, Nat.zero_le, Nat.zero_add] <;> omega
      · obtain rfl : i = p.ways.length := by omega
        have hlt' : decide ((p.ways.length : Int) < p.ways.length) = false := decide_eq_false (by omega)
        simp only [plnS, hlt', ↓If_lit, hT, eE, bytB, boo, eqK, isC, convK, fitsK, inst, instV, instC, instT, argTm, wpcE, SeqE, BlkE, RndE, wopsE, RetE, RetXE, RetRE, RetGE, resR, stp, bin, binI, numK, dstOf, St.ev, St.put, gtm, geth, seth, setAll, setRow, srcW, bndW, bldW, rowsW, setC, rdR, rdL, remh, Nat.beq, ofVal, resW, absC, pkR, selH, List.headD, List.toArray, AV.cells?, AV.nb, Nat.reduceAdd, Nat.reduceLT, Nat.reduceLeDiff, List.drop, List.take, puL, AV.pu, packT, List.set, List.all, AV.one, npL, AV.np, sub, subL, Int.reduceToNat]
        (try unfold lim); repeat first | ((with_reducible refine And.intro ?_ ?_); (first | omega | exact ⟨by omega, by omega⟩ | rfl)) | intro _
        rw [any_none w0 hp]
theorem TY_plnEdgeS {P : Program} (hP : P = Tryz.prog) : (((tyT P 34 = some ((true, 7))) ∧ (fldT P 34 4 = some ((4, (false, 1))))) ∧ ((tyT P 31 = some ((false, 1))) ∧ (lkT P 31 = 1))) ∧ (((elT P 31 = some ((true, (5, 56)))) ∧ (fldT P 70 0 = some ((0, (false, 1))))) ∧ ((tyT P 3 = some ((false, 1))) ∧ (fldT P 70 1 = some ((1, (false, 1)))))) := by subst hP; refine ⟨⟨⟨?_, ?_⟩, ⟨?_, ?_⟩⟩, ⟨⟨?_, ?_⟩, ⟨?_, ?_⟩⟩⟩ <;> kernel_rfl
theorem plnEdgeS {P : Program} [Known P] (hP : P = Tryz.prog) (p : VPln) (hs : Sz p) (f t : Int) : Fun P 14 [.agg (plnS p), .int .i64 f, .int .i64 t] (.bool (edge p f t)) := by
  refine fun_of (fn := Tryz.f14) (hP ▸ Tryz.func14) (by kernel_rfl) (by kernel_rfl) (by kernel_rfl) (by kernel_rfl) ?_
  have hT := TY_plnEdgeS hP
  have hm : P.follows .mixedOrders = true := by subst hP; kernel_rfl
  have ok := plnOkS hP p hs
  clear hP
  intro hl
  clear hl
  have hw := hs.w
  unfold edge
  simp only [plnS] at ok
  simp only [plnS, Tryz.f14, hT, eE, bytB, boo, eqK, isC, convK, fitsK, inst, instV, instC, instT, argTm, wpcE, SeqE, BlkE, RndE, wopsE, RetE, RetXE, RetRE, RetGE, resR, stp, bin, binI, numK, dstOf, St.ev, St.put, gtm, geth, seth, setAll, setRow, srcW, bndW, bldW, rowsW, setC, rdR, rdL, remh, Nat.beq, ofVal, resW, absC, pkR, selH, List.headD, List.toArray, AV.cells?, AV.nb, Nat.reduceAdd, Nat.reduceLT, Nat.reduceLeDiff, List.drop, List.take, puL, AV.pu, packT, List.set, List.all, AV.one, npL, AV.np, sub, subL, Int.reduceToNat]
  refine Fun.plain (ok) rfl rfl rfl rfl ?_; simp only [hT, nneg, beq_self_eq_true, decide_true, decide_false, ↓If_lit, Int.cast_ofNat_Int, Int.reduceLT, Int.reduceLE, eE, bytB, boo, eqK, isC, convK, fitsK, inst, instV, instC, instT, argTm, wpcE, SeqE, BlkE, RndE, wopsE, RetE, RetXE, RetRE, RetGE, resR, stp, bin, binI, numK, dstOf, St.ev, St.put, gtm, geth, seth, setAll, setRow, srcW, bndW, bldW, rowsW, setC, rdR, rdL, remh, Nat.beq, ofVal, resW, absC, pkR, selH, List.headD, List.toArray, AV.cells?, AV.nb, Nat.reduceAdd, Nat.reduceLT, Nat.reduceLeDiff, List.drop, List.take, puL, AV.pu, packT, List.set, List.all, AV.one, npL, AV.np, sub, subL, Int.reduceToNat]; (try unfold lim); repeat first | ((with_reducible refine And.intro ?_ ?_); (first | omega | exact ⟨by omega, by omega⟩ | rfl)) | intro _
  cases e : res p with
  | some x =>
    simp only [Option.isNone_some, Bool.not_false, ↓If_lit, hT, eE, bytB, boo, eqK, isC, convK, fitsK, inst, instV, instC, instT, argTm, wpcE, SeqE, BlkE, RndE, wopsE, RetE, RetXE, RetRE, RetGE, resR, stp, bin, binI, numK, dstOf, St.ev, St.put, gtm, geth, seth, setAll, setRow, srcW, bndW, bldW, rowsW, setC, rdR, rdL, remh, Nat.beq, ofVal, resW, absC, pkR, selH, List.headD, List.toArray, AV.cells?, AV.nb, Nat.reduceAdd, Nat.reduceLT, Nat.reduceLeDiff, List.drop, List.take, puL, AV.pu, packT, List.set, List.all, AV.one, npL, AV.np, sub, subL, Int.reduceToNat]
  | none =>
    simp only [Option.isNone_none, Bool.not_true, ↓If_lit, hT, eE, bytB, boo, eqK, isC, convK, fitsK, inst, instV, instC, instT, argTm, wpcE, SeqE, BlkE, RndE, wopsE, RetE, RetXE, RetRE, RetGE, resR, stp, bin, binI, numK, dstOf, St.ev, St.put, gtm, geth, seth, setAll, setRow, srcW, bndW, bldW, rowsW, setC, rdR, rdL, remh, Nat.beq, ofVal, resW, absC, pkR, selH, List.headD, List.toArray, AV.cells?, AV.nb, Nat.reduceAdd, Nat.reduceLT, Nat.reduceLeDiff, List.drop, List.take, puL, AV.pu, packT, List.set, List.all, AV.one, npL, AV.np, sub, subL, Int.reduceToNat]
    (try unfold lim); repeat first | ((with_reducible refine And.intro ?_ ?_); (first | omega | exact ⟨by omega, by omega⟩ | rfl)) | intro _
    refine wpc_loop {i : Nat // i ≤ p.ways.length ∧ ∀ j, j < i → edgeIs f t (p.way j) = false} (fun i => ⟨[(1, .int .i64 f), (2, .int .i64 t), (3, .cp 0 0 0), (7, .int .i64 i.1)], [(0, ⟨7, [plnS p], [], true⟩)], 1⟩) (fun i => p.ways.length - i.1) ⟨0, Nat.zero_le _, fun j hj => absurd hj (by omega)⟩ (Le.of [] (Nat.zero_le _) ?_ ?_ ?_) ?_
    · simp only [leT, Nat.le_refl, List.map_nil, eq_self, and_self,  leH, leO, leR, leN, lkR, ren, renL, nbl, nblL, gtm, geth, remh, sub, subL, Nat.beq, cond_true, cond_false, true_and, and_true, Nat.reduceLT, Nat.lt_add_one, Nat.zero_lt_one, Nat.zero_le, Nat.zero_add]
    · simp only [leT, Nat.le_refl, List.map_nil, eq_self, and_self,  leH, leO, leR, leN, lkR, ren, renL, nbl, nblL, gtm, geth, remh, sub, subL, Nat.beq, cond_true, cond_false, true_and, and_true, Nat.reduceLT, Nat.lt_add_one, Nat.zero_lt_one, Nat.zero_le, Nat.zero_add] <;> rfl
    · simp only [plnS, leT, Nat.le_refl, List.map_nil, eq_self, and_self,  leH, leO, leR, leN, lkR, ren, renL, nbl, nblL, gtm, geth, remh, sub, subL, Nat.beq, cond_true, cond_false, true_and, and_true, Nat.reduceLT, Nat.lt_add_one, Nat.zero_lt_one, Nat.zero_le, Nat.zero_add]
    · rintro ⟨i, hi, hp⟩
      by_cases hil : i < p.ways.length
      · have hlt' : decide ((i : Int) < p.ways.length) = true := decide_eq_true (by omega)
        have hg : ∀ d, (p.ways.map wayS).getD i d = wayS (p.way i) := fun d => getIn wayS p.ways i d w0 hil
        have yes : edgeIs f t (p.way i) = true → p.ways.any (edgeIs f t) = true := fun h => any_at w0 hil h
        have go : edgeIs f t (p.way i) = false → ∃ x' : {i : Nat // i ≤ p.ways.length ∧ ∀ j, j < i → edgeIs f t (p.way j) = false}, x'.val = i + 1 := fun h => ⟨⟨i + 1, hil, upto hp h⟩, rfl⟩
        simp only [plnS, hlt', hg, wayS, ↓If_lit, hT, eE, bytB, boo, eqK, isC, convK, fitsK, inst, instV, instC, instT, argTm, wpcE, SeqE, BlkE, RndE, wopsE, RetE, RetXE, RetRE, RetGE, resR, stp, bin, binI, numK, dstOf, St.ev, St.put, gtm, geth, seth, setAll, setRow, srcW, bndW, bldW, rowsW, setC, rdR, rdL, remh, Nat.beq, ofVal, resW, absC, pkR, selH, List.headD, List.toArray, AV.cells?, AV.nb, Nat.reduceAdd, Nat.reduceLT, Nat.reduceLeDiff, List.drop, List.take, puL, AV.pu, packT, List.set, List.all, AV.one, npL, AV.np, sub, subL, Int.reduceToNat]
        (try unfold lim); repeat first | ((with_reducible refine And.intro ?_ ?_); (first | omega | exact ⟨by omega, by omega⟩ | rfl)) | intro _
        refine ⟨fun q => ?_, fun q => ?_⟩
        · (try unfold lim); repeat first | ((with_reducible refine And.intro ?_ ?_); (first | omega | exact ⟨by omega, by omega⟩ | rfl)) | intro _
          refine ⟨fun q2 => ?_, fun q2 => ?_⟩
          · rw [yes (by unfold edgeIs; rw [q, q2]; rfl)]
          · obtain ⟨x', hx⟩ := go (by unfold edgeIs; rw [q, q2]; rfl)
            refine ⟨⟨by omega, by omega⟩, x', by omega, Le.of [] (Nat.zero_le _) ?_ ?_ ?_⟩ <;> simp only [plnS, leT, Nat.le_refl, List.map_nil, eq_self, and_self,  leH, leO, leR, leN, lkR, ren, renL, nbl, nblL, gtm, geth, remh, sub, subL, Nat.beq, cond_true, cond_false, true_and, and_true, Nat.reduceLT, Nat.lt_add_one, Nat.zero_lt_one, Nat.zero_le, Nat.zero_add] <;> omega
        · obtain ⟨x', hx⟩ := go (by unfold edgeIs; rw [q]; rfl)
          refine ⟨⟨by omega, by omega⟩, x', by omega, Le.of [] (Nat.zero_le _) ?_ ?_ ?_⟩ <;> simp only [plnS, leT, Nat.le_refl, List.map_nil, eq_self, and_self,  leH, leO, leR, leN, lkR, ren, renL, nbl, nblL, gtm, geth, remh, sub, subL, Nat.beq, cond_true, cond_false, true_and, and_true, Nat.reduceLT, Nat.lt_add_one, Nat.zero_lt_one, Nat.zero_le, Nat.zero_add] <;> omega
      · obtain rfl : i = p.ways.length := by omega
        have hlt' : decide ((p.ways.length : Int) < p.ways.length) = false := decide_eq_false (by omega)
        simp only [plnS, hlt', ↓If_lit, hT, eE, bytB, boo, eqK, isC, convK, fitsK, inst, instV, instC, instT, argTm, wpcE, SeqE, BlkE, RndE, wopsE, RetE, RetXE, RetRE, RetGE, resR, stp, bin, binI, numK, dstOf, St.ev, St.put, gtm, geth, seth, setAll, setRow, srcW, bndW, bldW, rowsW, setC, rdR, rdL, remh, Nat.beq, ofVal, resW, absC, pkR, selH, List.headD, List.toArray, AV.cells?, AV.nb, Nat.reduceAdd, Nat.reduceLT, Nat.reduceLeDiff, List.drop, List.take, puL, AV.pu, packT, List.set, List.all, AV.one, npL, AV.np, sub, subL, Int.reduceToNat]
        (try unfold lim); repeat first | ((with_reducible refine And.intro ?_ ?_); (first | omega | exact ⟨by omega, by omega⟩ | rfl)) | intro _
        rw [any_none w0 hp]
end Go.Proofs.YtnhcchmbdkiodaaGreat.C
