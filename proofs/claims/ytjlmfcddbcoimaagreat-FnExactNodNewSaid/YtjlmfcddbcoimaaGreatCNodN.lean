/- The law of NodNew: its code always says yes. -/
import Derived.Test.YtjlmfcddbcoimaaGreatCNodF
import Derived.Test.YtjlmfcddbcoimaaGreatCNodP
import Derived.Test.YtjlmfcddbcoimaaGreatCNodE
import Derived.Test.YtjlmfcddbcoimaaGreatCPlnZ
set_option maxRecDepth 100000
set_option maxHeartbeats 4000000
set_option linter.unusedSimpArgs false
set_option linter.unusedVariables false
namespace Go.Proofs.YtjlmfcddbcoimaaGreat.C
open Go Go.Av Go.Proofs
theorem sumA_cons {α : Type} (f : α → Nat) (x : α) (l : List α) : sumA f (x :: l) = f x + sumA f l := by
  simp [sumA, sumT]
theorem sumC_le {α : Type} (c : α → Nat) (f : α → Nat) (a b : Nat) (h : ∀ x, c x ≤ a + b * f x) : ∀ l : List α, sumC c l ≤ a * l.length + b * sumA f l
  | [] => by simp [sumC]
  | x :: l => by
    have h1 := sumC_le c f a b h l
    have h2 := h x
    have h3 : b * (f x + sumA f l) = b * f x + b * sumA f l := Nat.mul_add _ _ _
    have h4 : a * (l.length + 1) = a * l.length + a := Nat.mul_succ _ _
    rw [sumC, sumA_cons, List.length_cons, h3, h4]
    omega
theorem plnM_le (p : VPln) : plnM p ≤ 7 * plnN p := by
  have h1 := sumC_le (fun x : VCell => 4 + 4 * x.2.2.2.1.length) (fun x => x.2.2.2.1.length) 4 4 (fun x => Nat.le_refl _) p.cells
  have h2 := sumC_le (fun x : VWay => 4 + 7 * x.2.2.2.2.1.length) (fun x => x.2.2.2.2.1.length) 4 7 (fun x => Nat.le_refl _) p.ways
  have h3 := sumC_le (fun x : List Int => 1 * x.length) (fun x => x.length) 0 1 (fun x => by omega) p.turns
  unfold plnM plnN
  omega
theorem sumC_const {α : Type} (c : α → Nat) (n : Nat) (l : List α) (h : ∀ x ∈ l, c x ≤ n) : sumC c l ≤ n * l.length := by
  induction l with
  | nil => simp [sumC]
  | cons x l ih =>
    have h1 := h x List.mem_cons_self
    have h2 := ih fun y hy => h y (List.mem_cons_of_mem _ hy)
    have h4 : n * (l.length + 1) = n * l.length + n := Nat.mul_succ _ _
    rw [sumC, List.length_cons, h4]; omega
theorem begN_T (p : VPln) (b : Int) (hs : Sz p) : nodT (begN p b) ≤ 100000000 := by
  have hc := hs.c
  have hw := hs.w
  have h1 := sumC_const (fun x : VCel => 2 + x.1.2.1.length + x.1.2.2.1.length + x.2.1.length) 14 (begN p b).cells (fun x hx => by
    simp only [begN, VNod.cells, List.mem_replicate] at hx; rw [hx.2]; exact Nat.le_refl _)
  have h2 := sumC_const (fun x : VBox => 1 + sumC (fun x : List UInt8 => x.length) x.2.1) 1 (begN p b).out (fun x hx => by
    simp only [begN, VNod.out, List.mem_map] at hx; obtain ⟨w, _, rfl⟩ := hx; simp [boxN, sumC])
  have h3 := sumC_const (fun x : VBox => 1 + sumC (fun x : List UInt8 => x.length) x.2.1) 1 (begN p b).inn (fun x hx => by
    simp only [begN, VNod.inn, List.mem_map] at hx; obtain ⟨w, _, rfl⟩ := hx; simp [boxN, sumC])
  have h4 := sumC_const (fun _ : VOut => 4) 4 (begN p b).outs (fun _ _ => Nat.le_refl _)
  have h5 := sumC_const (fun _ : VInn => 3) 3 (begN p b).inns (fun _ _ => Nat.le_refl _)
  have l1 : (begN p b).cells.length = p.cells.length := by simp [begN, VNod.cells]
  have l2 : (begN p b).out.length = p.ways.length := by simp [begN, VNod.out]
  have l3 : (begN p b).inn.length = p.ways.length := by simp [begN, VNod.inn]
  have l4 : (begN p b).outs.length = p.ways.length := by simp [begN, VNod.outs]
  have l5 : (begN p b).inns.length = p.ways.length := by simp [begN, VNod.inns]
  have l6 : (begN p b).heard.1.length ≤ 4 ∧ (begN p b).heard.2.1.length ≤ 4 := by
    simp only [begN, VNod.heard, hrdN]
    cases hq : (decide (p.1 < 1) || decide (4 < p.1)) with
    | true => simp
    | false => simp at hq; simp [zs]; omega
  unfold nodT
  omega
theorem newN_T (p : VPln) (a : Int) (hs : Sz p) : nodT (newN p a) ≤ 100000000 := by
  unfold newN
  cases ((res p).isNone && has a p.1) with
  | true => exact begN_T p 0 hs
  | false => simp [nodT, nod0, sumC]
theorem plnO_S (p : VPln) : rdL (plnO p) = plnS p := by
  unfold plnO plnS
  simp only [rdL, AV.rd, rdR_cell, rdR_way, rdR_slot, rdR_turn]
theorem TY_lawNew {P : Program} (hP : P = Tryz.prog) : ((P.follows .mixedOrders = true) ∧ ((tyT P 27 = some ((true, 7))) ∧ (zeroT P 37 = some (((.bool false) :: ((.int .i64 0) :: ((.int .i64 0) :: (.nils :: (.nils :: (.nils :: (.nils :: (.nils :: (.nils :: (.nils :: [])))))))))))))) ∧ ((tyT P 37 = some ((true, 10))) ∧ ((zeroT P 43 = some (((.int .i64 0) :: ((.int .i64 0) :: ((.int .i64 0) :: (.nils :: (.nils :: (.nils :: (.nils :: []))))))))) ∧ (tyT P 43 = some ((true, 7))))) := by subst hP; refine ⟨⟨?_, ⟨?_, ?_⟩⟩, ⟨?_, ⟨?_, ?_⟩⟩⟩ <;> kernel_rfl
theorem lawNew {P : Program} [Known P] (hP : P = Tryz.prog) (p : VPln) (c : Int) : Fun P 3 [.agg (plnS p), .int .i64 c] (.bool true) := by
  refine fun_of (fn := Tryz.f3) (hP ▸ Tryz.func3) (by kernel_rfl) (by kernel_rfl) (by kernel_rfl) (by kernel_rfl) ?_
  have hT := TY_lawNew hP
  have hm : P.follows .mixedOrders = true := by subst hP; kernel_rfl
  have sz := szPlnPlan hP p 1048576 (by omega) (by omega)
  have to := fun h => toPlnPlan hP p h
  have os := fun h => nodNewS hP p h c
  have oi := fun h => nodNewI hP p h c
  have eq := eqPlnPlan hP p
  have mk := fun h a b c => markPlnPlan hP p h a b c
  have eb := fun n => eqNodNode hP n
  have mb := fun n h u a b => markNodNode hP n 1 (by omega) h u a b
  have hb := fun n h => heldNodNode hP n 1 (by omega) h
  clear hP
  intro hl
  clear hl
  simp only [plnS] at sz to os oi eq
  simp only [plnO] at to
  simp only [plnS, Tryz.f3, hT, eE, eF, eG, eW, bytB, boo, isC, convK, fitsK, inst, instV, stp, bin, binI, numK, St.ev, St.put, setAll, setRow, srcW, bndW, setC, Nat.beq, pkR, List.headD, List.toArray, AV.cells?, AV.nb, Nat.reduceAdd, Nat.reduceLT, Nat.reduceLeDiff, packT, AV.one, Int.reduceToNat]
  refine Fun.plain sz rfl rfl rfl rfl ?_
  simp only [hT, eE, eF, eG, eW, bytB, boo, isC, convK, fitsK, inst, instV, stp, bin, binI, numK, St.ev, St.put, setAll, setRow, srcW, bndW, setC, Nat.beq, pkR, List.headD, List.toArray, AV.cells?, AV.nb, Nat.reduceAdd, Nat.reduceLT, Nat.reduceLeDiff, packT, AV.one, Int.reduceToNat]
  refine ⟨fun q => by first | rfl | trivial, fun q => ?_⟩
  have hN : plnN p ≤ 1048576 := by
    simp only [decide_eq_false_iff_not] at q
    unfold szL at q
    unfold plnN
    split at q <;> omega
  have hs := Sz.of hN
  have hM := plnM_le p
  have to := to hs
  have os := os hs
  have oi := oi hs
  have mk := mk (by omega)
  have hR := newN_T p c hs
  generalize newN p c = n at *
  have eb := eb n
  have mb := mb n (by omega)
  have hb := hb n (by omega)
  have hk2 : decide ((1 : Int) + nodT n < 0) = false := decide_eq_false (by omega)
  have hna := nod_na n
  generalize plnM p = m at *
  have hk : decide ((1 : Int) + m < 0) = false := decide_eq_false (by omega)
  simp only [nodO] at os oi mb hna
  simp only [nodS] at eb hb
  refine Fun.plain (to) rfl rfl rfl rfl ?_; simp only [hT, nneg, beq_self_eq_true, decide_true, decide_false, ↓If_lit, Int.cast_ofNat_Int, Int.reduceLT, Int.reduceLE, eE, eF, eG, eW, bytB, boo, isC, convK, fitsK, inst, instV, stp, bin, binI, numK, St.ev, St.put, setAll, setRow, srcW, bndW, setC, Nat.beq, pkR, List.headD, List.toArray, AV.cells?, AV.nb, Nat.reduceAdd, Nat.reduceLT, Nat.reduceLeDiff, packT, AV.one, Int.reduceToNat]; (try unfold lim); repeat first | ((with_reducible refine And.intro ?_ ?_); (first | omega | exact ⟨by omega, by omega⟩ | rfl)) | intro _
  refine Fun.lent os (by simp only [Int.cast_ofNat_Int, List.map_cons, List.map_nil, pur, geth, Nat.beq, cond_true, cond_false, rdR_byt, rdL, AV.rd, AV.nbV, AV.nb, rdR_cell, rdR_way, rdR_slot, rdR_turn]) (by rfl) rfl rfl hna ?_; simp only [hT, nneg, beq_self_eq_true, decide_true, decide_false, ↓If_lit, Int.cast_ofNat_Int, Int.reduceLT, Int.reduceLE, eE, eF, eG, eW, bytB, boo, isC, convK, fitsK, inst, instV, stp, bin, binI, numK, St.ev, St.put, setAll, setRow, srcW, bndW, setC, Nat.beq, pkR, List.headD, List.toArray, AV.cells?, AV.nb, Nat.reduceAdd, Nat.reduceLT, Nat.reduceLeDiff, packT, AV.one, Int.reduceToNat]; (try unfold lim); repeat first | ((with_reducible refine And.intro ?_ ?_); (first | omega | exact ⟨by omega, by omega⟩ | rfl)) | intro _
  refine Fun.plain (to) rfl rfl rfl rfl ?_; simp only [hT, nneg, beq_self_eq_true, decide_true, decide_false, ↓If_lit, Int.cast_ofNat_Int, Int.reduceLT, Int.reduceLE, eE, eF, eG, eW, bytB, boo, isC, convK, fitsK, inst, instV, stp, bin, binI, numK, St.ev, St.put, setAll, setRow, srcW, bndW, setC, Nat.beq, pkR, List.headD, List.toArray, AV.cells?, AV.nb, Nat.reduceAdd, Nat.reduceLT, Nat.reduceLeDiff, packT, AV.one, Int.reduceToNat]; (try unfold lim); repeat first | ((with_reducible refine And.intro ?_ ?_); (first | omega | exact ⟨by omega, by omega⟩ | rfl)) | intro _
  refine Fun.lent oi (by simp only [Int.cast_ofNat_Int, List.map_cons, List.map_nil, pur, geth, Nat.beq, cond_true, cond_false, rdR_byt, rdL, AV.rd, AV.nbV, AV.nb, rdR_cell, rdR_way, rdR_slot, rdR_turn]) (by rfl) rfl rfl hna ?_; simp only [hT, nneg, beq_self_eq_true, decide_true, decide_false, ↓If_lit, Int.cast_ofNat_Int, Int.reduceLT, Int.reduceLE, eE, eF, eG, eW, bytB, boo, isC, convK, fitsK, inst, instV, stp, bin, binI, numK, St.ev, St.put, setAll, setRow, srcW, bndW, setC, Nat.beq, pkR, List.headD, List.toArray, AV.cells?, AV.nb, Nat.reduceAdd, Nat.reduceLT, Nat.reduceLeDiff, packT, AV.one, Int.reduceToNat]; (try unfold lim); repeat first | ((with_reducible refine And.intro ?_ ?_); (first | omega | exact ⟨by omega, by omega⟩ | rfl)) | intro _
  refine Fun.lent eb (by simp only [Int.cast_ofNat_Int, List.map_cons, List.map_nil, pur, geth, Nat.beq, cond_true, cond_false, rdR_byt, rdL, AV.rd, AV.nbV, AV.nb, rdR_cel, rdR_box, rdR_out, rdR_inn, rdR_int]) (by rfl) rfl rfl rfl ?_; simp only [hT, nneg, beq_self_eq_true, decide_true, decide_false, ↓If_lit, Int.cast_ofNat_Int, Int.reduceLT, Int.reduceLE, eE, eF, eG, eW, bytB, boo, isC, convK, fitsK, inst, instV, stp, bin, binI, numK, St.ev, St.put, setAll, setRow, srcW, bndW, setC, Nat.beq, pkR, List.headD, List.toArray, AV.cells?, AV.nb, Nat.reduceAdd, Nat.reduceLT, Nat.reduceLeDiff, packT, AV.one, Int.reduceToNat]; (try unfold lim); repeat first | ((with_reducible refine And.intro ?_ ?_); (first | omega | exact ⟨by omega, by omega⟩ | rfl)) | intro _
  try simp only [Bool.not_true, ↓If_lit, hT, eE, eF, eG, eW, bytB, boo, isC, convK, fitsK, inst, instV, stp, bin, binI, numK, St.ev, St.put, setAll, setRow, srcW, bndW, setC, Nat.beq, pkR, List.headD, List.toArray, AV.cells?, AV.nb, Nat.reduceAdd, Nat.reduceLT, Nat.reduceLeDiff, packT, AV.one, Int.reduceToNat]
  refine wpc_draw (.alt 0 (.alt 1 (.alt 2 (.alt 3 (.take 4 .done) .stop) .stop) .stop) (.alt 1 (.alt 0 (.alt 2 (.alt 3 (.take 4 .done) .stop) .stop) (.alt 2 (.alt 0 (.alt 3 (.take 4 .done) .stop) .stop) .stop)) .stop)) hm (by kernel_rfl) ?_
  simp only [hT, Bool.not_true, ↓If_lit, wtrE, wthE, hstE, pstE, Pk, eq_self, gOp, ↓If_lit, PCall, lenP, List.getElem?_cons_zero, List.getElem?_cons_succ, Nat.reduceSub, reduceCtorEq, eE, eF, eG, eW, bytB, boo, isC, convK, fitsK, inst, instV, stp, bin, binI, numK, St.ev, St.put, setAll, setRow, srcW, bndW, setC, Nat.beq, pkR, List.headD, List.toArray, AV.cells?, AV.nb, Nat.reduceAdd, Nat.reduceLT, Nat.reduceLeDiff, packT, AV.one, Int.reduceToNat]
  refine ⟨?_, ?_, ?_⟩
  all_goals
    refine Fun.plain to rfl rfl rfl rfl ?_
    simp only [hT, ↓If_lit, wtrE, wthE, hstE, pstE, Pk, eq_self, gOp, ↓If_lit, PCall, lenP, List.getElem?_cons_zero, List.getElem?_cons_succ, Nat.reduceSub, reduceCtorEq, eE, eF, eG, eW, bytB, boo, isC, convK, fitsK, inst, instV, stp, bin, binI, numK, St.ev, St.put, setAll, setRow, srcW, bndW, setC, Nat.beq, pkR, List.headD, List.toArray, AV.cells?, AV.nb, Nat.reduceAdd, Nat.reduceLT, Nat.reduceLeDiff, packT, AV.one, Int.reduceToNat]
    refine Fun.lent eq (by simp only [Int.cast_ofNat_Int, List.map_cons, List.map_nil, pur, geth, Nat.beq, cond_true, cond_false, rdR_byt, rdL, AV.rd, AV.nbV, AV.nb, rdR_cell, rdR_way, rdR_slot, rdR_turn]) (by rfl) rfl rfl rfl ?_
    simp only [hT, Bool.not_true, ↓If_lit, wtrE, wthE, hstE, pstE, Pk, eq_self, gOp, ↓If_lit, PCall, lenP, List.getElem?_cons_zero, List.getElem?_cons_succ, Nat.reduceSub, reduceCtorEq, eE, eF, eG, eW, bytB, boo, isC, convK, fitsK, inst, instV, stp, bin, binI, numK, St.ev, St.put, setAll, setRow, srcW, bndW, setC, Nat.beq, pkR, List.headD, List.toArray, AV.cells?, AV.nb, Nat.reduceAdd, Nat.reduceLT, Nat.reduceLeDiff, packT, AV.one, Int.reduceToNat]
    refine FunM.lend (mk p.1 p.2.1 p.2.2.1) ([(0, some 18), (1, some 19), (2, some 20), (3, some 21)]) 0 (by simp only [Int.cast_ofNat_Int, fullR, keysR, sub, subL, ren, renL, nbl, nblL, leH, leO, leR, lkR, geth, remh, blwH, blwR, blwL, blw, AV.pu, puL, AV.nbV, mapH, mapO, mapNR, mapNL, mapN, sg, takeH, Nat.beq, cond_true, cond_false, true_and, and_true, List.map_nil, List.map_cons, Nat.reduceLT, Nat.lt_add_one, Nat.zero_lt_one, Nat.zero_le, Nat.zero_add, Nat.add_zero, Nat.reduceAdd, Nat.reduceSub, eq_self, and_self, AV.nb, List.cons_append, List.nil_append]) (by simp only [Int.cast_ofNat_Int, fullR, keysR, sub, subL, ren, renL, nbl, nblL, leH, leO, leR, lkR, geth, remh, blwH, blwR, blwL, blw, AV.pu, puL, AV.nbV, mapH, mapO, mapNR, mapNL, mapN, sg, takeH, Nat.beq, cond_true, cond_false, true_and, and_true, List.map_nil, List.map_cons, Nat.reduceLT, Nat.lt_add_one, Nat.zero_lt_one, Nat.zero_le, Nat.zero_add, Nat.add_zero, Nat.reduceAdd, Nat.reduceSub, eq_self, and_self, AV.nb, List.cons_append, List.nil_append]) (by simp only [Int.cast_ofNat_Int, fullR, keysR, sub, subL, ren, renL, nbl, nblL, leH, leO, leR, lkR, geth, remh, blwH, blwR, blwL, blw, AV.pu, puL, AV.nbV, mapH, mapO, mapNR, mapNL, mapN, sg, takeH, Nat.beq, cond_true, cond_false, true_and, and_true, List.map_nil, List.map_cons, Nat.reduceLT, Nat.lt_add_one, Nat.zero_lt_one, Nat.zero_le, Nat.zero_add, Nat.add_zero, Nat.reduceAdd, Nat.reduceSub, eq_self, and_self, AV.nb, List.cons_append, List.nil_append]) (by simp only [Int.cast_ofNat_Int, fullR, keysR, sub, subL, ren, renL, nbl, nblL, leH, leO, leR, lkR, geth, remh, blwH, blwR, blwL, blw, AV.pu, puL, AV.nbV, mapH, mapO, mapNR, mapNL, mapN, sg, takeH, Nat.beq, cond_true, cond_false, true_and, and_true, List.map_nil, List.map_cons, Nat.reduceLT, Nat.lt_add_one, Nat.zero_lt_one, Nat.zero_le, Nat.zero_add, Nat.add_zero, Nat.reduceAdd, Nat.reduceSub, eq_self, and_self, AV.nb, List.cons_append, List.nil_append]) (by simp only [Int.cast_ofNat_Int, fullR, keysR, sub, subL, ren, renL, nbl, nblL, leH, leO, leR, lkR, geth, remh, blwH, blwR, blwL, blw, AV.pu, puL, AV.nbV, mapH, mapO, mapNR, mapNL, mapN, sg, takeH, Nat.beq, cond_true, cond_false, true_and, and_true, List.map_nil, List.map_cons, Nat.reduceLT, Nat.lt_add_one, Nat.zero_lt_one, Nat.zero_le, Nat.zero_add, Nat.add_zero, Nat.reduceAdd, Nat.reduceSub, eq_self, and_self, AV.nb, List.cons_append, List.nil_append]) (by simp only [Int.cast_ofNat_Int, fullR, keysR, sub, subL, ren, renL, nbl, nblL, leH, leO, leR, lkR, geth, remh, blwH, blwR, blwL, blw, AV.pu, puL, AV.nbV, mapH, mapO, mapNR, mapNL, mapN, sg, takeH, Nat.beq, cond_true, cond_false, true_and, and_true, List.map_nil, List.map_cons, Nat.reduceLT, Nat.lt_add_one, Nat.zero_lt_one, Nat.zero_le, Nat.zero_add, Nat.add_zero, Nat.reduceAdd, Nat.reduceSub, eq_self, and_self, AV.nb, List.cons_append, List.nil_append]) rfl ?_; simp only [hT, nneg, decide_true, decide_false, ↓If_lit, Int.reduceLT, Int.reduceLE, Int.cast_ofNat_Int, fullR, keysR, sub, subL, ren, renL, nbl, nblL, leH, leO, leR, lkR, geth, remh, blwH, blwR, blwL, blw, AV.pu, puL, AV.nbV, mapH, mapO, mapNR, mapNL, mapN, sg, takeH, Nat.beq, cond_true, cond_false, true_and, and_true, List.map_nil, List.map_cons, Nat.reduceLT, Nat.lt_add_one, Nat.zero_lt_one, Nat.zero_le, Nat.zero_add, Nat.add_zero, Nat.reduceAdd, Nat.reduceSub, eq_self, and_self, AV.nb, List.cons_append, List.nil_append, eE, eF, eG, eW, bytB, boo, isC, convK, fitsK, inst, instV, stp, bin, binI, numK, St.ev, St.put, setAll, setRow, srcW, bndW, setC, Nat.beq, pkR, List.headD, List.toArray, AV.cells?, AV.nb, Nat.reduceAdd, Nat.reduceLT, Nat.reduceLeDiff, packT, AV.one, Int.reduceToNat]
    simp only [hk, hT, ↓If_lit, eE, eF, eG, eW, bytB, boo, isC, convK, fitsK, inst, instV, stp, bin, binI, numK, St.ev, St.put, setAll, setRow, srcW, bndW, setC, Nat.beq, pkR, List.headD, List.toArray, AV.cells?, AV.nb, Nat.reduceAdd, Nat.reduceLT, Nat.reduceLeDiff, packT, AV.one, Int.reduceToNat]
    refine Fun.lent eb (by simp only [Int.cast_ofNat_Int, List.map_cons, List.map_nil, pur, geth, Nat.beq, cond_true, cond_false, rdR_byt, rdL, AV.rd, AV.nbV, AV.nb, rdR_cel, rdR_box, rdR_out, rdR_inn, rdR_int]) (by rfl) rfl rfl rfl ?_; simp only [hT, nneg, beq_self_eq_true, decide_true, decide_false, ↓If_lit, Int.cast_ofNat_Int, Int.reduceLT, Int.reduceLE, eE, eF, eG, eW, bytB, boo, isC, convK, fitsK, inst, instV, stp, bin, binI, numK, St.ev, St.put, setAll, setRow, srcW, bndW, setC, Nat.beq, pkR, List.headD, List.toArray, AV.cells?, AV.nb, Nat.reduceAdd, Nat.reduceLT, Nat.reduceLeDiff, packT, AV.one, Int.reduceToNat]; (try unfold lim); repeat first | ((with_reducible refine And.intro ?_ ?_); (first | omega | exact ⟨by omega, by omega⟩ | rfl)) | intro _
    try simp only [Bool.not_true, ↓If_lit, hT, eE, eF, eG, eW, bytB, boo, isC, convK, fitsK, inst, instV, stp, bin, binI, numK, St.ev, St.put, setAll, setRow, srcW, bndW, setC, Nat.beq, pkR, List.headD, List.toArray, AV.cells?, AV.nb, Nat.reduceAdd, Nat.reduceLT, Nat.reduceLeDiff, packT, AV.one, Int.reduceToNat]
    refine FunM.lend (mb n.up n.boot n.hello) ([(0, some 30), (1, some 31), (2, some 32), (3, some 33), (4, some 34), (5, some 35), (6, some 36)]) 0 (by simp only [Int.cast_ofNat_Int, fullR, keysR, sub, subL, ren, renL, nbl, nblL, leH, leO, leR, lkR, geth, remh, blwH, blwR, blwL, blw, AV.pu, puL, AV.nbV, mapH, mapO, mapNR, mapNL, mapN, sg, takeH, Nat.beq, cond_true, cond_false, true_and, and_true, List.map_nil, List.map_cons, Nat.reduceLT, Nat.lt_add_one, Nat.zero_lt_one, Nat.zero_le, Nat.zero_add, Nat.add_zero, Nat.reduceAdd, Nat.reduceSub, eq_self, and_self, AV.nb, List.cons_append, List.nil_append]) (by simp only [Int.cast_ofNat_Int, fullR, keysR, sub, subL, ren, renL, nbl, nblL, leH, leO, leR, lkR, geth, remh, blwH, blwR, blwL, blw, AV.pu, puL, AV.nbV, mapH, mapO, mapNR, mapNL, mapN, sg, takeH, Nat.beq, cond_true, cond_false, true_and, and_true, List.map_nil, List.map_cons, Nat.reduceLT, Nat.lt_add_one, Nat.zero_lt_one, Nat.zero_le, Nat.zero_add, Nat.add_zero, Nat.reduceAdd, Nat.reduceSub, eq_self, and_self, AV.nb, List.cons_append, List.nil_append]) (by simp only [Int.cast_ofNat_Int, fullR, keysR, sub, subL, ren, renL, nbl, nblL, leH, leO, leR, lkR, geth, remh, blwH, blwR, blwL, blw, AV.pu, puL, AV.nbV, mapH, mapO, mapNR, mapNL, mapN, sg, takeH, Nat.beq, cond_true, cond_false, true_and, and_true, List.map_nil, List.map_cons, Nat.reduceLT, Nat.lt_add_one, Nat.zero_lt_one, Nat.zero_le, Nat.zero_add, Nat.add_zero, Nat.reduceAdd, Nat.reduceSub, eq_self, and_self, AV.nb, List.cons_append, List.nil_append]) (by simp only [Int.cast_ofNat_Int, fullR, keysR, sub, subL, ren, renL, nbl, nblL, leH, leO, leR, lkR, geth, remh, blwH, blwR, blwL, blw, AV.pu, puL, AV.nbV, mapH, mapO, mapNR, mapNL, mapN, sg, takeH, Nat.beq, cond_true, cond_false, true_and, and_true, List.map_nil, List.map_cons, Nat.reduceLT, Nat.lt_add_one, Nat.zero_lt_one, Nat.zero_le, Nat.zero_add, Nat.add_zero, Nat.reduceAdd, Nat.reduceSub, eq_self, and_self, AV.nb, List.cons_append, List.nil_append]) (by simp only [Int.cast_ofNat_Int, fullR, keysR, sub, subL, ren, renL, nbl, nblL, leH, leO, leR, lkR, geth, remh, blwH, blwR, blwL, blw, AV.pu, puL, AV.nbV, mapH, mapO, mapNR, mapNL, mapN, sg, takeH, Nat.beq, cond_true, cond_false, true_and, and_true, List.map_nil, List.map_cons, Nat.reduceLT, Nat.lt_add_one, Nat.zero_lt_one, Nat.zero_le, Nat.zero_add, Nat.add_zero, Nat.reduceAdd, Nat.reduceSub, eq_self, and_self, AV.nb, List.cons_append, List.nil_append]) (by simp only [Int.cast_ofNat_Int, fullR, keysR, sub, subL, ren, renL, nbl, nblL, leH, leO, leR, lkR, geth, remh, blwH, blwR, blwL, blw, AV.pu, puL, AV.nbV, mapH, mapO, mapNR, mapNL, mapN, sg, takeH, Nat.beq, cond_true, cond_false, true_and, and_true, List.map_nil, List.map_cons, Nat.reduceLT, Nat.lt_add_one, Nat.zero_lt_one, Nat.zero_le, Nat.zero_add, Nat.add_zero, Nat.reduceAdd, Nat.reduceSub, eq_self, and_self, AV.nb, List.cons_append, List.nil_append]) rfl ?_; simp only [hT, nneg, decide_true, decide_false, ↓If_lit, Int.reduceLT, Int.reduceLE, Int.cast_ofNat_Int, fullR, keysR, sub, subL, ren, renL, nbl, nblL, leH, leO, leR, lkR, geth, remh, blwH, blwR, blwL, blw, AV.pu, puL, AV.nbV, mapH, mapO, mapNR, mapNL, mapN, sg, takeH, Nat.beq, cond_true, cond_false, true_and, and_true, List.map_nil, List.map_cons, Nat.reduceLT, Nat.lt_add_one, Nat.zero_lt_one, Nat.zero_le, Nat.zero_add, Nat.add_zero, Nat.reduceAdd, Nat.reduceSub, eq_self, and_self, AV.nb, List.cons_append, List.nil_append, eE, eF, eG, eW, bytB, boo, isC, convK, fitsK, inst, instV, stp, bin, binI, numK, St.ev, St.put, setAll, setRow, srcW, bndW, setC, Nat.beq, pkR, List.headD, List.toArray, AV.cells?, AV.nb, Nat.reduceAdd, Nat.reduceLT, Nat.reduceLeDiff, packT, AV.one, Int.reduceToNat]
    refine Fun.lent hb (by simp only [Int.cast_ofNat_Int, List.map_cons, List.map_nil, pur, geth, Nat.beq, cond_true, cond_false, rdR_byt, rdL, AV.rd, AV.nbV, AV.nb, rdR_cel, rdR_box, rdR_out, rdR_inn, rdR_int]; rfl) (by rfl) rfl rfl rfl ?_; simp only [hT, nneg, beq_self_eq_true, decide_true, decide_false, ↓If_lit, Int.cast_ofNat_Int, Int.reduceLT, Int.reduceLE, eE, eF, eG, eW, bytB, boo, isC, convK, fitsK, inst, instV, stp, bin, binI, numK, St.ev, St.put, setAll, setRow, srcW, bndW, setC, Nat.beq, pkR, List.headD, List.toArray, AV.cells?, AV.nb, Nat.reduceAdd, Nat.reduceLT, Nat.reduceLeDiff, packT, AV.one, Int.reduceToNat]; (try unfold lim); repeat first | ((with_reducible refine And.intro ?_ ?_); (first | omega | exact ⟨by omega, by omega⟩ | rfl)) | intro _
    try simp only [hk2, decide_true, Bool.not_true, ↓If_lit, hT, eE, eF, eG, eW, bytB, boo, isC, convK, fitsK, inst, instV, stp, bin, binI, numK, St.ev, St.put, setAll, setRow, srcW, bndW, setC, Nat.beq, pkR, List.headD, List.toArray, AV.cells?, AV.nb, Nat.reduceAdd, Nat.reduceLT, Nat.reduceLeDiff, packT, AV.one, Int.reduceToNat]
    refine Fun.plain (to) rfl rfl rfl rfl ?_; simp only [hT, nneg, beq_self_eq_true, decide_true, decide_false, ↓If_lit, Int.cast_ofNat_Int, Int.reduceLT, Int.reduceLE, eE, eF, eG, eW, bytB, boo, isC, convK, fitsK, inst, instV, stp, bin, binI, numK, St.ev, St.put, setAll, setRow, srcW, bndW, setC, Nat.beq, pkR, List.headD, List.toArray, AV.cells?, AV.nb, Nat.reduceAdd, Nat.reduceLT, Nat.reduceLeDiff, packT, AV.one, Int.reduceToNat]; (try unfold lim); repeat first | ((with_reducible refine And.intro ?_ ?_); (first | omega | exact ⟨by omega, by omega⟩ | rfl)) | intro _
    refine Fun.lent oi (by simp only [Int.cast_ofNat_Int, List.map_cons, List.map_nil, pur, geth, Nat.beq, cond_true, cond_false, rdR_byt, rdL, AV.rd, AV.nbV, AV.nb, rdR_cell, rdR_way, rdR_slot, rdR_turn]) (by rfl) rfl rfl hna ?_; simp only [hT, nneg, beq_self_eq_true, decide_true, decide_false, ↓If_lit, Int.cast_ofNat_Int, Int.reduceLT, Int.reduceLE, eE, eF, eG, eW, bytB, boo, isC, convK, fitsK, inst, instV, stp, bin, binI, numK, St.ev, St.put, setAll, setRow, srcW, bndW, setC, Nat.beq, pkR, List.headD, List.toArray, AV.cells?, AV.nb, Nat.reduceAdd, Nat.reduceLT, Nat.reduceLeDiff, packT, AV.one, Int.reduceToNat]; (try unfold lim); repeat first | ((with_reducible refine And.intro ?_ ?_); (first | omega | exact ⟨by omega, by omega⟩ | rfl)) | intro _
    refine Fun.lent eb (by simp only [Int.cast_ofNat_Int, List.map_cons, List.map_nil, pur, geth, Nat.beq, cond_true, cond_false, rdR_byt, rdL, AV.rd, AV.nbV, AV.nb, rdR_cel, rdR_box, rdR_out, rdR_inn, rdR_int]) (by rfl) rfl rfl rfl ?_; simp only [hT, nneg, beq_self_eq_true, decide_true, decide_false, ↓If_lit, Int.cast_ofNat_Int, Int.reduceLT, Int.reduceLE, eE, eF, eG, eW, bytB, boo, isC, convK, fitsK, inst, instV, stp, bin, binI, numK, St.ev, St.put, setAll, setRow, srcW, bndW, setC, Nat.beq, pkR, List.headD, List.toArray, AV.cells?, AV.nb, Nat.reduceAdd, Nat.reduceLT, Nat.reduceLeDiff, packT, AV.one, Int.reduceToNat]; (try unfold lim); repeat first | ((with_reducible refine And.intro ?_ ?_); (first | omega | exact ⟨by omega, by omega⟩ | rfl)) | intro _
    try simp only [Bool.not_true, ↓If_lit, hT, eE, eF, eG, eW, bytB, boo, isC, convK, fitsK, inst, instV, stp, bin, binI, numK, St.ev, St.put, setAll, setRow, srcW, bndW, setC, Nat.beq, pkR, List.headD, List.toArray, AV.cells?, AV.nb, Nat.reduceAdd, Nat.reduceLT, Nat.reduceLeDiff, packT, AV.one, Int.reduceToNat]
    refine Fun.lent hb (by simp only [Int.cast_ofNat_Int, List.map_cons, List.map_nil, pur, geth, Nat.beq, cond_true, cond_false, rdR_byt, rdL, AV.rd, AV.nbV, AV.nb, rdR_cel, rdR_box, rdR_out, rdR_inn, rdR_int]; rfl) (by rfl) rfl rfl rfl ?_; simp only [hT, nneg, beq_self_eq_true, decide_true, decide_false, ↓If_lit, Int.cast_ofNat_Int, Int.reduceLT, Int.reduceLE, eE, eF, eG, eW, bytB, boo, isC, convK, fitsK, inst, instV, stp, bin, binI, numK, St.ev, St.put, setAll, setRow, srcW, bndW, setC, Nat.beq, pkR, List.headD, List.toArray, AV.cells?, AV.nb, Nat.reduceAdd, Nat.reduceLT, Nat.reduceLeDiff, packT, AV.one, Int.reduceToNat]; (try unfold lim); repeat first | ((with_reducible refine And.intro ?_ ?_); (first | omega | exact ⟨by omega, by omega⟩ | rfl)) | intro _
    try simp only [hk2, decide_true, Bool.not_true, ↓If_lit, hT, eE, eF, eG, eW, bytB, boo, isC, convK, fitsK, inst, instV, stp, bin, binI, numK, St.ev, St.put, setAll, setRow, srcW, bndW, setC, Nat.beq, pkR, List.headD, List.toArray, AV.cells?, AV.nb, Nat.reduceAdd, Nat.reduceLT, Nat.reduceLeDiff, packT, AV.one, Int.reduceToNat]
end Go.Proofs.YtjlmfcddbcoimaaGreat.C
