/- The law of NodOk: its code always says yes. -/
import Derived.Test.YtjlmfcddbcoimaaGreatCNodK
import Derived.Test.YtjlmfcddbcoimaaGreatCNodE
import Derived.Test.YtjlmfcddbcoimaaGreatCNodZ
import Derived.Test.YtjlmfcddbcoimaaGreatCPlnZ
import Derived.Test.YtjlmfcddbcoimaaGreatCPlnE
set_option maxRecDepth 100000
set_option maxHeartbeats 4000000
set_option linter.unusedSimpArgs false
set_option linter.unusedVariables false
namespace Go.Proofs.YtjlmfcddbcoimaaGreat.C
open Go Go.Av Go.Proofs
theorem szL_ok {k : Nat} {a : Int} (q : decide (szL k a < 0) = false) (h0 : 0 ≤ a) : (k : Int) ≤ a := by
  simp only [decide_eq_false_iff_not] at q
  unfold szL at q
  split at q <;> omega
theorem szL_eq {k : Nat} {a : Int} (h : (k : Int) ≤ a) : szL k a = a - k := by
  unfold szL; rw [if_neg (by omega)]
theorem szPln {P : Program} [Known P] (hP : P = Tryz.prog) (x : VPln) (a : Int) (h1 : 0 ≤ a) (h2 : a ≤ 1048576) : Fun P 13 [.agg (plnS x), .int .i64 a] (.int .i64 (szL (plnN x) a)) := by
  simpa only [plnN, Nat.add_assoc] using szPlnPlan hP x a h1 h2
theorem szNod {P : Program} [Known P] (hP : P = Tryz.prog) (x : VNod) (a : Int) (h1 : 0 ≤ a) (h2 : a ≤ 1048576) : Fun P 22 [.agg (nodS x), .int .i64 a] (.int .i64 (szL (nodN x) a)) := by
  simpa only [nodN, Nat.add_assoc] using szNodNode hP x a h1 h2
theorem TY_lawNodOk {P : Program} (hP : P = Tryz.prog) : (((P.follows .mixedOrders = true) ∧ (tyT P 27 = some ((true, 7)))) ∧ ((tyT P 56 = some ((true, 10))) ∧ (zeroT P 43 = some (((.int .i64 0) :: ((.int .i64 0) :: ((.int .i64 0) :: (.nils :: (.nils :: (.nils :: (.nils :: []))))))))))) ∧ (((tyT P 43 = some ((true, 7))) ∧ (zeroT P 37 = some (((.bool false) :: ((.int .i64 0) :: ((.int .i64 0) :: (.nils :: (.nils :: (.nils :: (.nils :: (.nils :: (.nils :: (.nils :: []))))))))))))) ∧ ((tyT P 37 = some ((true, 10))) ∧ (bolT P 4 = true))) := by subst hP; refine ⟨⟨⟨?_, ?_⟩, ⟨?_, ?_⟩⟩, ⟨⟨?_, ?_⟩, ⟨?_, ?_⟩⟩⟩ <;> kernel_rfl
theorem lawNodOk {P : Program} [Known P] (hP : P = Tryz.prog) (p : VPln) (n : VNod) (c : Int) : Fun P 4 [.agg (plnS p), .agg (nodS n), .int .i64 c] (.bool true) := by
  refine fun_of (fn := Tryz.f4) (hP ▸ Tryz.func4) (by kernel_rfl) (by kernel_rfl) (by kernel_rfl) (by kernel_rfl) ?_
  have hT := TY_lawNodOk hP
  have hm : P.follows .mixedOrders = true := by subst hP; kernel_rfl
  have sz_p := fun a h1 h2 => szPln hP p a h1 h2
  have to_p := fun h => toPlnPlan hP p h
  have eq_p := eqPlnPlan hP p
  have sz_n := fun a h1 h2 => szNod hP n a h1 h2
  have to_n := fun h => toNodNode hP n h
  have eq_n := eqNodNode hP n
  have os := fun (hs_p : Sz p) (hs_n : SzN n) => nodOkS hP p hs_p n hs_n c
  have oi := fun (hs_p : Sz p) (hs_n : SzN n) => nodOkI hP p hs_p n hs_n c
  clear hP
  intro hl
  clear hl
  simp only [plnS, nodS] at sz_p to_p eq_p sz_n to_n eq_n os oi
  simp only [plnO, nodO] at to_p to_n
  simp only [plnS, nodS, Tryz.f4, hT, eE, eF, eG, eW, bytB, boo, isC, convK, fitsK, inst, instV, stp, bin, binI, numK, St.ev, St.put, setAll, setRow, srcW, bndW, setC, Nat.beq, pkR, List.headD, List.toArray, AV.cells?, AV.nb, Nat.reduceAdd, Nat.reduceLT, Nat.reduceLeDiff, packT, AV.one, Int.reduceToNat]
  refine Fun.plain (sz_p (1048576) (by omega) (by omega)) rfl rfl rfl rfl ?_
  simp only [hT, eE, eF, eG, eW, bytB, boo, isC, convK, fitsK, inst, instV, stp, bin, binI, numK, St.ev, St.put, setAll, setRow, srcW, bndW, setC, Nat.beq, pkR, List.headD, List.toArray, AV.cells?, AV.nb, Nat.reduceAdd, Nat.reduceLT, Nat.reduceLeDiff, packT, AV.one, Int.reduceToNat]
  refine ⟨fun q => by first | rfl | trivial, fun q => ?_⟩
  have h_p := szL_ok q (by omega)
  try rw [szL_eq h_p]
  refine Fun.plain (sz_n (1048576 - (plnN p : Nat)) (by omega) (by omega)) rfl rfl rfl rfl ?_
  simp only [hT, eE, eF, eG, eW, bytB, boo, isC, convK, fitsK, inst, instV, stp, bin, binI, numK, St.ev, St.put, setAll, setRow, srcW, bndW, setC, Nat.beq, pkR, List.headD, List.toArray, AV.cells?, AV.nb, Nat.reduceAdd, Nat.reduceLT, Nat.reduceLeDiff, packT, AV.one, Int.reduceToNat]
  refine ⟨fun q => by first | rfl | trivial, fun q => ?_⟩
  have h_n := szL_ok q (by omega)
  try rw [szL_eq h_n]
  have hs_p := Sz.of (show plnN p ≤ 1048576 by omega)
  have to_p := to_p hs_p
  have hs_n := SzN.of (show nodN n ≤ 1048576 by omega)
  have to_n := to_n hs_n
  have os := os hs_p hs_n
  have oi := oi hs_p hs_n
  generalize okN p n c = b at *
  repeat' first
    | (with_reducible refine And.intro ?_ ?_)
    | (show wpc P _ (Code.region 8 _ _) _ _; refine wpc_draw (.take 4 (.alt 0 (.alt 1 (.alt 2 (.alt 3 (.alt 5 (.alt 6 .done .stop) .stop) .stop) .stop) (.alt 2 (.alt 1 (.alt 3 (.alt 5 (.alt 6 .done .stop) .stop) .stop) .stop) .stop)) (.alt 2 (.alt 0 (.alt 1 (.alt 3 (.alt 5 (.alt 6 .done .stop) .stop) .stop) .stop) .stop) .stop))) hm (by kernel_rfl) ?_; simp only [hT, ↓If_lit, wtrE, wthE, hstE, pstE, Pk, eq_self, gOp, ↓If_lit, PCall, lenP, List.getElem?_cons_zero, List.getElem?_cons_succ, Nat.reduceSub, reduceCtorEq, eE, eF, eG, eW, bytB, boo, isC, convK, fitsK, inst, instV, stp, bin, binI, numK, St.ev, St.put, setAll, setRow, srcW, bndW, setC, Nat.beq, pkR, List.headD, List.toArray, AV.cells?, AV.nb, Nat.reduceAdd, Nat.reduceLT, Nat.reduceLeDiff, packT, AV.one, Int.reduceToNat])
    | (show wpc P _ (Code.region 14 _ _) _ _; refine wpc_draw (.alt 0 (.alt 1 (.alt 2 (.alt 3 (.take 4 .done) .stop) .stop) .stop) (.alt 1 (.alt 0 (.alt 2 (.alt 3 (.take 4 .done) .stop) .stop) (.alt 2 (.alt 0 (.alt 3 (.take 4 .done) .stop) .stop) .stop)) .stop)) hm (by kernel_rfl) ?_; simp only [hT, ↓If_lit, wtrE, wthE, hstE, pstE, Pk, eq_self, gOp, ↓If_lit, PCall, lenP, List.getElem?_cons_zero, List.getElem?_cons_succ, Nat.reduceSub, reduceCtorEq, eE, eF, eG, eW, bytB, boo, isC, convK, fitsK, inst, instV, stp, bin, binI, numK, St.ev, St.put, setAll, setRow, srcW, bndW, setC, Nat.beq, pkR, List.headD, List.toArray, AV.cells?, AV.nb, Nat.reduceAdd, Nat.reduceLT, Nat.reduceLeDiff, packT, AV.one, Int.reduceToNat])
    | (show wpc P _ (Code.region 16 _ _) _ _; refine wpc_draw (.alt 0 (.alt 1 (.alt 2 (.alt 3 (.take 4 .done) .stop) .stop) .stop) (.alt 1 (.alt 0 (.alt 2 (.alt 3 (.take 4 .done) .stop) .stop) (.alt 2 (.alt 0 (.alt 3 (.take 4 .done) .stop) .stop) .stop)) .stop)) hm (by kernel_rfl) ?_; simp only [hT, ↓If_lit, wtrE, wthE, hstE, pstE, Pk, eq_self, gOp, ↓If_lit, PCall, lenP, List.getElem?_cons_zero, List.getElem?_cons_succ, Nat.reduceSub, reduceCtorEq, eE, eF, eG, eW, bytB, boo, isC, convK, fitsK, inst, instV, stp, bin, binI, numK, St.ev, St.put, setAll, setRow, srcW, bndW, setC, Nat.beq, pkR, List.headD, List.toArray, AV.cells?, AV.nb, Nat.reduceAdd, Nat.reduceLT, Nat.reduceLeDiff, packT, AV.one, Int.reduceToNat])
    | (refine Fun.plain to_p rfl rfl rfl rfl ?_; simp only [hT, ↓If_lit, Bool.not_true, wtrE, wthE, hstE, pstE, Pk, eq_self, gOp, ↓If_lit, PCall, lenP, List.getElem?_cons_zero, List.getElem?_cons_succ, Nat.reduceSub, reduceCtorEq, eE, eF, eG, eW, bytB, boo, isC, convK, fitsK, inst, instV, stp, bin, binI, numK, St.ev, St.put, setAll, setRow, srcW, bndW, setC, Nat.beq, pkR, List.headD, List.toArray, AV.cells?, AV.nb, Nat.reduceAdd, Nat.reduceLT, Nat.reduceLeDiff, packT, AV.one, Int.reduceToNat])
    | (refine Fun.plain to_n rfl rfl rfl rfl ?_; simp only [hT, ↓If_lit, Bool.not_true, wtrE, wthE, hstE, pstE, Pk, eq_self, gOp, ↓If_lit, PCall, lenP, List.getElem?_cons_zero, List.getElem?_cons_succ, Nat.reduceSub, reduceCtorEq, eE, eF, eG, eW, bytB, boo, isC, convK, fitsK, inst, instV, stp, bin, binI, numK, St.ev, St.put, setAll, setRow, srcW, bndW, setC, Nat.beq, pkR, List.headD, List.toArray, AV.cells?, AV.nb, Nat.reduceAdd, Nat.reduceLT, Nat.reduceLeDiff, packT, AV.one, Int.reduceToNat])
    | (refine Fun.lent os (by simp only [Int.cast_ofNat_Int, List.map_cons, List.map_nil, pur, geth, Nat.beq, cond_true, cond_false, rdR_byt, rdL, AV.rd, AV.nbV, AV.nb, rdR_cell, rdR_way, rdR_slot, rdR_turn, rdR_cel, rdR_box, rdR_out, rdR_inn, rdR_int]) (by rfl) rfl rfl rfl ?_; simp only [hT, ↓If_lit, bne_self_eq_false, beq_self_eq_true, Bool.not_true, wtrE, wthE, hstE, pstE, Pk, eq_self, gOp, ↓If_lit, PCall, lenP, List.getElem?_cons_zero, List.getElem?_cons_succ, Nat.reduceSub, reduceCtorEq, eE, eF, eG, eW, bytB, boo, isC, convK, fitsK, inst, instV, stp, bin, binI, numK, St.ev, St.put, setAll, setRow, srcW, bndW, setC, Nat.beq, pkR, List.headD, List.toArray, AV.cells?, AV.nb, Nat.reduceAdd, Nat.reduceLT, Nat.reduceLeDiff, packT, AV.one, Int.reduceToNat])
    | (refine Fun.lent oi (by simp only [Int.cast_ofNat_Int, List.map_cons, List.map_nil, pur, geth, Nat.beq, cond_true, cond_false, rdR_byt, rdL, AV.rd, AV.nbV, AV.nb, rdR_cell, rdR_way, rdR_slot, rdR_turn, rdR_cel, rdR_box, rdR_out, rdR_inn, rdR_int]) (by rfl) rfl rfl rfl ?_; simp only [hT, ↓If_lit, bne_self_eq_false, beq_self_eq_true, Bool.not_true, wtrE, wthE, hstE, pstE, Pk, eq_self, gOp, ↓If_lit, PCall, lenP, List.getElem?_cons_zero, List.getElem?_cons_succ, Nat.reduceSub, reduceCtorEq, eE, eF, eG, eW, bytB, boo, isC, convK, fitsK, inst, instV, stp, bin, binI, numK, St.ev, St.put, setAll, setRow, srcW, bndW, setC, Nat.beq, pkR, List.headD, List.toArray, AV.cells?, AV.nb, Nat.reduceAdd, Nat.reduceLT, Nat.reduceLeDiff, packT, AV.one, Int.reduceToNat])
    | (refine Fun.lent eq_p (by simp only [Int.cast_ofNat_Int, List.map_cons, List.map_nil, pur, geth, Nat.beq, cond_true, cond_false, rdR_byt, rdL, AV.rd, AV.nbV, AV.nb, rdR_cell, rdR_way, rdR_slot, rdR_turn, rdR_cel, rdR_box, rdR_out, rdR_inn, rdR_int]) (by rfl) rfl rfl rfl ?_; simp only [hT, ↓If_lit, bne_self_eq_false, beq_self_eq_true, Bool.not_true, wtrE, wthE, hstE, pstE, Pk, eq_self, gOp, ↓If_lit, PCall, lenP, List.getElem?_cons_zero, List.getElem?_cons_succ, Nat.reduceSub, reduceCtorEq, eE, eF, eG, eW, bytB, boo, isC, convK, fitsK, inst, instV, stp, bin, binI, numK, St.ev, St.put, setAll, setRow, srcW, bndW, setC, Nat.beq, pkR, List.headD, List.toArray, AV.cells?, AV.nb, Nat.reduceAdd, Nat.reduceLT, Nat.reduceLeDiff, packT, AV.one, Int.reduceToNat])
    | (refine Fun.lent eq_n (by simp only [Int.cast_ofNat_Int, List.map_cons, List.map_nil, pur, geth, Nat.beq, cond_true, cond_false, rdR_byt, rdL, AV.rd, AV.nbV, AV.nb, rdR_cell, rdR_way, rdR_slot, rdR_turn, rdR_cel, rdR_box, rdR_out, rdR_inn, rdR_int]) (by rfl) rfl rfl rfl ?_; simp only [hT, ↓If_lit, bne_self_eq_false, beq_self_eq_true, Bool.not_true, wtrE, wthE, hstE, pstE, Pk, eq_self, gOp, ↓If_lit, PCall, lenP, List.getElem?_cons_zero, List.getElem?_cons_succ, Nat.reduceSub, reduceCtorEq, eE, eF, eG, eW, bytB, boo, isC, convK, fitsK, inst, instV, stp, bin, binI, numK, St.ev, St.put, setAll, setRow, srcW, bndW, setC, Nat.beq, pkR, List.headD, List.toArray, AV.cells?, AV.nb, Nat.reduceAdd, Nat.reduceLT, Nat.reduceLeDiff, packT, AV.one, Int.reduceToNat])
    | rfl
    | (intro _)
end Go.Proofs.YtjlmfcddbcoimaaGreat.C
