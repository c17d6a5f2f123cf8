/- Who is reached: by both texts. -/
import Derived.Test.YtnhcchmbdkiodaaGreatCPlnM
set_option maxRecDepth 100000
set_option maxHeartbeats 4000000
set_option linter.unusedSimpArgs false
set_option linter.unusedVariables false
namespace Go.Proofs.YtnhcchmbdkiodaaGreat.C
open Go Go.Av Go.Proofs
def bE (b : Bool) : List AV := [.bool b]
abbrev bO (l : List Bool) : AV := .own 1 (l.map bE) [.bool false]
abbrev bH (l : List Bool) : Ob := ⟨1, l.map bE, [.bool false], false⟩
theorem bE_get (l : List Bool) (k : Nat) : (l.map bE).getD k [.bool false] = [.bool (l.getD k false)] := by
  simp only [List.getD_eq_getElem?_getD, List.getElem?_map]
  cases l[k]? <;> rfl
def rstep (r : List Bool) (w : VWay) : List Bool := bif r.getD w.2.1.toNat false then r.set w.1.toNat true else r
def riter (ws : List VWay) : Nat → List Bool → List Bool
  | 0, r => r
  | n + 1, r => ws.foldl rstep (riter ws n r)
def rz (n c : Nat) : List Bool := (List.range n).map fun i => decide (i = c)
/-- Who is reached from a cell. -/
def reachT (p : VPln) (c : Int) : List Bool := bif (res p).isNone && has c p.cells.length then riter p.ways p.cells.length (rz p.cells.length c.toNat) else []
theorem rstep_length (r : List Bool) (w : VWay) : (rstep r w).length = r.length := by
  unfold rstep; cases r.getD w.2.1.toNat false <;> simp
theorem rfold_length : ∀ (ws : List VWay) (r : List Bool), (ws.foldl rstep r).length = r.length
  | [], r => rfl
  | w :: ws, r => by rw [List.foldl_cons, rfold_length ws, rstep_length]
theorem riter_length (ws : List VWay) : ∀ (n : Nat) (r : List Bool), (riter ws n r).length = r.length
  | 0, r => rfl
  | n + 1, r => by rw [riter, rfold_length, riter_length ws n]
theorem rz_length (n c : Nat) : (rz n c).length = n := by simp [rz]
theorem rz_set (n c : Nat) : (List.replicate n false).set c true = rz n c := by
  apply List.ext_getElem?
  intro i
  by_cases hi : i < n
  · rw [List.getElem?_set]
    by_cases hc : c = i
    · subst hc; simp [rz, hi]
    · rw [if_neg hc]
      have : ¬ i = c := fun h => hc h.symm
      simp [rz, hi, List.getElem?_replicate, this]
  · rw [List.getElem?_eq_none (by simp; omega), List.getElem?_eq_none (by simp [rz]; omega)]
theorem TY_reachI {P : Program} (hP : P = Tryz.prog) : ((((tyT P 34 = some ((true, 7))) ∧ (fldT P 34 3 = some ((3, (false, 1))))) ∧ ((tyT P 30 = some ((false, 1))) ∧ (lkT P 30 = 1))) ∧ (((mkT P 42 = some ((1, (1, ((.bool false) :: []))))) ∧ (elT P 42 = some ((false, (1, 1))))) ∧ ((tyT P 4 = some ((false, 1))) ∧ (fldT P 34 4 = some ((4, (false, 1))))))) ∧ ((((tyT P 31 = some ((false, 1))) ∧ (lkT P 31 = 1)) ∧ ((elT P 31 = some ((true, (5, 56)))) ∧ (tyT P 70 = some ((true, 5))))) ∧ (((zeroT P 70 = some (((.int .i64 0) :: ((.int .i64 0) :: ((.int .i64 0) :: ((.bool false) :: (.nils :: []))))))) ∧ (fldT P 70 1 = some ((1, (false, 1))))) ∧ ((tyT P 3 = some ((false, 1))) ∧ (fldT P 70 0 = some ((0, (false, 1))))))) := by subst hP; refine ⟨⟨⟨⟨?_, ?_⟩, ⟨?_, ?_⟩⟩, ⟨⟨?_, ?_⟩, ⟨?_, ?_⟩⟩⟩, ⟨⟨⟨?_, ?_⟩, ⟨?_, ?_⟩⟩, ⟨⟨?_, ?_⟩, ⟨?_, ?_⟩⟩⟩⟩ <;> kernel_rfl
theorem reachI {P : Program} [Known P] (hP : P = Tryz.prog) (p : VPln) (hs : Sz p) (c : Int) : Fun P 17 [.agg (plnS p), .int .i64 c] (bO (reachT p c)) := by
  refine fun_of (fn := Tryz.f17) (hP ▸ Tryz.func17) (by kernel_rfl) (by kernel_rfl) (by kernel_rfl) (by kernel_rfl) ?_
  have hT := TY_reachI hP
  have oi := plnOkI hP p hs
  have ph := fun x n => plnHas hP x n
  clear hP
  intro hl
  clear hl
  have hcs := hs.c
  have hws := hs.w
  simp only [plnS, Tryz.f17, hT, eE, bytB, boo, eqK, isC, convK, fitsK, inst, instV, instC, instT, argTm, wpcE, SeqE, BlkE, RndE, wopsE, RetE, RetXE, RetRE, RetGE, resR, stp, bin, binI, numK, dstOf, St.ev, St.put, gtm, geth, seth, setAll, setRow, srcW, bndW, bldW, rowsW, setC, rdR, rdL, remh, Nat.beq, ofVal, resW, absC, pkR, selH, List.headD, List.toArray, AV.cells?, AV.nb, Nat.reduceAdd, Nat.reduceLT, Nat.reduceLeDiff, List.drop, List.take, puL, AV.pu, packT, List.set, List.all, AV.one, npL, AV.np, sub, subL, Int.reduceToNat]
  simp only [plnS] at oi
  refine Fun.plain (oi) rfl rfl rfl rfl ?_; simp only [hT, nneg, beq_self_eq_true, decide_true, decide_false, ↓If_lit, Int.cast_ofNat_Int, Int.reduceLT, Int.reduceLE, eE, bytB, boo, eqK, isC, convK, fitsK, inst, instV, instC, instT, argTm, wpcE, SeqE, BlkE, RndE, wopsE, RetE, RetXE, RetRE, RetGE, resR, stp, bin, binI, numK, dstOf, St.ev, St.put, gtm, geth, seth, setAll, setRow, srcW, bndW, bldW, rowsW, setC, rdR, rdL, remh, Nat.beq, ofVal, resW, absC, pkR, selH, List.headD, List.toArray, AV.cells?, AV.nb, Nat.reduceAdd, Nat.reduceLT, Nat.reduceLeDiff, List.drop, List.take, puL, AV.pu, packT, List.set, List.all, AV.one, npL, AV.np, sub, subL, Int.reduceToNat]; (try unfold lim); repeat first | ((with_reducible refine And.intro ?_ ?_); (first | omega | exact ⟨by omega, by omega⟩ | rfl)) | intro _
  unfold reachT
  refine ⟨fun q0 => ?_, fun q0 => ?_⟩
  · have q0 : (res p).isNone = false := by simpa using q0
    rw [q0]; rfl
  · have q0 : (res p).isNone = true := by simpa using q0
    have hres : res p = none := by simpa using q0
    rw [q0, Bool.true_and]
    (try unfold lim); repeat first | ((with_reducible refine And.intro ?_ ?_); (first | omega | exact ⟨by omega, by omega⟩ | rfl)) | intro _
    refine Fun.plain (ph _ _) rfl rfl rfl rfl ?_; simp only [hT, nneg, beq_self_eq_true, decide_true, decide_false, ↓If_lit, Int.cast_ofNat_Int, Int.reduceLT, Int.reduceLE, eE, bytB, boo, eqK, isC, convK, fitsK, inst, instV, instC, instT, argTm, wpcE, SeqE, BlkE, RndE, wopsE, RetE, RetXE, RetRE, RetGE, resR, stp, bin, binI, numK, dstOf, St.ev, St.put, gtm, geth, seth, setAll, setRow, srcW, bndW, bldW, rowsW, setC, rdR, rdL, remh, Nat.beq, ofVal, resW, absC, pkR, selH, List.headD, List.toArray, AV.cells?, AV.nb, Nat.reduceAdd, Nat.reduceLT, Nat.reduceLeDiff, List.drop, List.take, puL, AV.pu, packT, List.set, List.all, AV.one, npL, AV.np, sub, subL, Int.reduceToNat]; (try unfold lim); repeat first | ((with_reducible refine And.intro ?_ ?_); (first | omega | exact ⟨by omega, by omega⟩ | rfl)) | intro _
    refine ⟨fun q1 => ?_, fun q1 => ?_⟩
    · have q1 : has c p.cells.length = false := by simpa using q1
      simp only [q1]; rfl
    · have q1 : has c p.cells.length = true := by simpa using q1
      simp only [q1, cond_true]
      have hc := q1
      unfold has at hc
      simp only [Bool.and_eq_true, decide_eq_true_eq] at hc
      (try unfold lim); repeat first | ((with_reducible refine And.intro ?_ ?_); (first | omega | exact ⟨by omega, by omega⟩ | rfl)) | intro _
      obtain ⟨hc0, hc1⟩ := hc
      have hct : c.toNat < p.cells.length := by omega
      have hri := fun k hk => res_ways hres k hk
      have hrl : ∀ i, (riter p.ways i (rz p.cells.length c.toNat)).length = p.cells.length := fun i => by rw [riter_length, rz_length]
      refine ⟨by simpa using hc1, by simpa using hct, fun _ => ?_⟩
      refine wpc_loop {i : Nat // i ≤ p.cells.length} (fun i => ⟨[(2, .cp 0 0 0), (5, .os 1), (28, .int .i64 p.cells.length), (29, .int .i64 i.1)], [(1, bH (riter p.ways i.1 (rz p.cells.length c.toNat))), (0, ⟨7, [plnS p], [], true⟩)], 2⟩) (fun i => p.cells.length - i.1) ⟨0, Nat.zero_le _⟩ (Le.of [] (Nat.zero_le _) ?_ ?_ ?_) ?_
      · simp only [leT, Nat.le_refl, List.map_nil, eq_self, and_self,  leH, leO, leR, leN, lkR, ren, renL, nbl, nblL, gtm, geth, remh, sub, subL, Nat.beq, cond_true, cond_false, true_and, and_true, Nat.reduceLT, Nat.lt_add_one, Nat.zero_lt_one, Nat.zero_le, Nat.zero_add]
      · simp only [leT, Nat.le_refl, List.map_nil, eq_self, and_self,  leH, leO, leR, leN, lkR, ren, renL, nbl, nblL, gtm, geth, remh, sub, subL, Nat.beq, cond_true, cond_false, true_and, and_true, Nat.reduceLT, Nat.lt_add_one, Nat.zero_lt_one, Nat.zero_le, Nat.zero_add]; rfl
      · simp only [riter, ← rz_set, List.map_set, List.map_replicate, plnS, bE, leT, Nat.le_refl, List.map_nil, eq_self, and_self,  leH, leO, leR, leN, lkR, ren, renL, nbl, nblL, gtm, geth, remh, sub, subL, Nat.beq, cond_true, cond_false, true_and, and_true, Nat.reduceLT, Nat.lt_add_one, Nat.zero_lt_one, Nat.zero_le, Nat.zero_add]
      · rintro ⟨i, hi⟩
        have hR := hrl i
        by_cases hlt : i < p.cells.length
        · have hlt1 : decide ((i : Int) < p.cells.length) = true := decide_eq_true (by omega)
          have hst : riter p.ways (i + 1) (rz p.cells.length c.toNat) = p.ways.foldl rstep (riter p.ways i (rz p.cells.length c.toNat)) := rfl
          generalize riter p.ways i (rz p.cells.length c.toNat) = R at *
          simp only [hT, hlt1, plnS, ↓If_lit, eE, bytB, boo, eqK, isC, convK, fitsK, inst, instV, instC, instT, argTm, wpcE, SeqE, BlkE, RndE, wopsE, RetE, RetXE, RetRE, RetGE, resR, stp, bin, binI, numK, dstOf, St.ev, St.put, gtm, geth, seth, setAll, setRow, srcW, bndW, bldW, rowsW, setC, rdR, rdL, remh, Nat.beq, ofVal, resW, absC, pkR, selH, List.headD, List.toArray, AV.cells?, AV.nb, Nat.reduceAdd, Nat.reduceLT, Nat.reduceLeDiff, List.drop, List.take, puL, AV.pu, packT, List.set, List.all, AV.one, npL, AV.np, sub, subL, Int.reduceToNat]
          (try unfold lim); repeat first | ((with_reducible refine And.intro ?_ ?_); (first | omega | exact ⟨by omega, by omega⟩ | rfl)) | intro _
          refine wpc_loop {j : Nat // j ≤ p.ways.length} (fun j => ⟨[(2, .cp 0 0 0), (5, .os 1), (28, .int .i64 p.cells.length), (29, .int .i64 i), (32, .sl 5 (p.ways.map wayS) wZ), (33, .int .i64 p.ways.length), (34, .int .i64 j.1)], [(1, bH ((p.ways.take j.1).foldl rstep R)), (0, ⟨7, [plnS p], [], true⟩)], 2⟩) (fun j => p.ways.length - j.1) ⟨0, Nat.zero_le _⟩ (Le.of [] (Nat.zero_le _) ?_ ?_ ?_) ?_
          · simp only [leT, Nat.le_refl, List.map_nil, eq_self, and_self,  leH, leO, leR, leN, lkR, ren, renL, nbl, nblL, gtm, geth, remh, sub, subL, Nat.beq, cond_true, cond_false, true_and, and_true, Nat.reduceLT, Nat.lt_add_one, Nat.zero_lt_one, Nat.zero_le, Nat.zero_add]
          · simp only [leT, Nat.le_refl, List.map_nil, eq_self, and_self,  leH, leO, leR, leN, lkR, ren, renL, nbl, nblL, gtm, geth, remh, sub, subL, Nat.beq, cond_true, cond_false, true_and, and_true, Nat.reduceLT, Nat.lt_add_one, Nat.zero_lt_one, Nat.zero_le, Nat.zero_add]; rfl
          · simp only [plnS, List.take_zero, List.foldl_nil, leT, Nat.le_refl, List.map_nil, eq_self, and_self,  leH, leO, leR, leN, lkR, ren, renL, nbl, nblL, gtm, geth, remh, sub, subL, Nat.beq, cond_true, cond_false, true_and, and_true, Nat.reduceLT, Nat.lt_add_one, Nat.zero_lt_one, Nat.zero_le, Nat.zero_add]
          · rintro ⟨j, hj⟩
            by_cases hjl : j < p.ways.length
            · have hjl1 : decide ((j : Int) < p.ways.length) = true := decide_eq_true (by omega)
              have hwj := hri j hjl
              have hget : p.ways[j]? = some (p.way j) := by rw [VPln.way, List.getD_eq_getElem?_getD, List.getElem?_eq_getElem hjl]; rfl
              have hfold : (p.ways.take (j + 1)).foldl rstep R = rstep ((p.ways.take j).foldl rstep R) (p.way j) := by
                rw [List.take_add_one, hget, List.foldl_append]; rfl
              have hRl : ((p.ways.take j).foldl rstep R).length = p.cells.length := by rw [rfold_length, hR]
              have hrow : ∀ d, (p.ways.map wayS).getD j d = wayS (p.way j) := fun d => by
                rw [List.getD_eq_getElem?_getD, List.getElem?_map, hget]; rfl
              generalize (p.ways.take j).foldl rstep R = r at *
              generalize p.way j = w at *
              obtain ⟨hw1, hw2⟩ := hwj
              unfold has at hw1 hw2
              simp only [Bool.and_eq_true, decide_eq_true_eq] at hw1 hw2
              have hrl2 : (r.map bE).length = p.cells.length := by rw [List.length_map, hRl]
              simp only [hT, hjl1, hrow, wayS, plnS, bE_get, Int.toNat_natCast, ↓If_lit, eE, bytB, boo, eqK, isC, convK, fitsK, inst, instV, instC, instT, argTm, wpcE, SeqE, BlkE, RndE, wopsE, RetE, RetXE, RetRE, RetGE, resR, stp, bin, binI, numK, dstOf, St.ev, St.put, gtm, geth, seth, setAll, setRow, srcW, bndW, bldW, rowsW, setC, rdR, rdL, remh, Nat.beq, ofVal, resW, absC, pkR, selH, List.headD, List.toArray, AV.cells?, AV.nb, Nat.reduceAdd, Nat.reduceLT, Nat.reduceLeDiff, List.drop, List.take, puL, AV.pu, packT, List.set, List.all, AV.one, npL, AV.np, sub, subL, Int.reduceToNat]
              (try unfold lim); repeat first | ((with_reducible refine And.intro ?_ ?_); (first | omega | exact ⟨by omega, by omega⟩ | rfl)) | intro _
              refine ⟨fun q2 => ?_, fun q2 => ?_⟩
              · have hs : rstep r w = r.set w.1.toNat true := by unfold rstep; rw [q2]; rfl
                refine ⟨hw1.1, by omega, by omega, ⟨by omega, by omega⟩, ⟨j + 1, hjl⟩, by simp only; omega, Le.of [] (Nat.zero_le _) ?_ ?_ ?_⟩
                · simp only [leT, Nat.le_refl, List.map_nil, eq_self, and_self,  leH, leO, leR, leN, lkR, ren, renL, nbl, nblL, gtm, geth, remh, sub, subL, Nat.beq, cond_true, cond_false, true_and, and_true, Nat.reduceLT, Nat.lt_add_one, Nat.zero_lt_one, Nat.zero_le, Nat.zero_add]
                · simp only [leT, Nat.le_refl, List.map_nil, eq_self, and_self,  leH, leO, leR, leN, lkR, ren, renL, nbl, nblL, gtm, geth, remh, sub, subL, Nat.beq, cond_true, cond_false, true_and, and_true, Nat.reduceLT, Nat.lt_add_one, Nat.zero_lt_one, Nat.zero_le, Nat.zero_add]; rfl
                · simp only [hfold, hs, List.map_set, bE, plnS, leT, Nat.le_refl, List.map_nil, eq_self, and_self,  leH, leO, leR, leN, lkR, ren, renL, nbl, nblL, gtm, geth, remh, sub, subL, Nat.beq, cond_true, cond_false, true_and, and_true, Nat.reduceLT, Nat.lt_add_one, Nat.zero_lt_one, Nat.zero_le, Nat.zero_add]
              · have hs : rstep r w = r := by unfold rstep; rw [q2]; rfl
                refine ⟨⟨by omega, by omega⟩, ⟨j + 1, hjl⟩, by simp only; omega, Le.of [] (Nat.zero_le _) ?_ ?_ ?_⟩
                · simp only [leT, Nat.le_refl, List.map_nil, eq_self, and_self,  leH, leO, leR, leN, lkR, ren, renL, nbl, nblL, gtm, geth, remh, sub, subL, Nat.beq, cond_true, cond_false, true_and, and_true, Nat.reduceLT, Nat.lt_add_one, Nat.zero_lt_one, Nat.zero_le, Nat.zero_add]
                · simp only [leT, Nat.le_refl, List.map_nil, eq_self, and_self,  leH, leO, leR, leN, lkR, ren, renL, nbl, nblL, gtm, geth, remh, sub, subL, Nat.beq, cond_true, cond_false, true_and, and_true, Nat.reduceLT, Nat.lt_add_one, Nat.zero_lt_one, Nat.zero_le, Nat.zero_add]; rfl
                · simp only [hfold, hs, plnS, leT, Nat.le_refl, List.map_nil, eq_self, and_self,  leH, leO, leR, leN, lkR, ren, renL, nbl, nblL, gtm, geth, remh, sub, subL, Nat.beq, cond_true, cond_false, true_and, and_true, Nat.reduceLT, Nat.lt_add_one, Nat.zero_lt_one, Nat.zero_le, Nat.zero_add]
            · obtain rfl : j = p.ways.length := by omega
              have hjl1 : decide ((p.ways.length : Int) < p.ways.length) = false := decide_eq_false (by omega)
              simp only [hT, hjl1, plnS, ↓If_lit, eE, bytB, boo, eqK, isC, convK, fitsK, inst, instV, instC, instT, argTm, wpcE, SeqE, BlkE, RndE, wopsE, RetE, RetXE, RetRE, RetGE, resR, stp, bin, binI, numK, dstOf, St.ev, St.put, gtm, geth, seth, setAll, setRow, srcW, bndW, bldW, rowsW, setC, rdR, rdL, remh, Nat.beq, ofVal, resW, absC, pkR, selH, List.headD, List.toArray, AV.cells?, AV.nb, Nat.reduceAdd, Nat.reduceLT, Nat.reduceLeDiff, List.drop, List.take, puL, AV.pu, packT, List.set, List.all, AV.one, npL, AV.np, sub, subL, Int.reduceToNat]
              refine ⟨⟨by omega, by omega⟩, ⟨i + 1, hlt⟩, by simp only; omega, Le.of [] (Nat.zero_le _) ?_ ?_ ?_⟩
              · simp only [leT, Nat.le_refl, List.map_nil, eq_self, and_self,  leH, leO, leR, leN, lkR, ren, renL, nbl, nblL, gtm, geth, remh, sub, subL, Nat.beq, cond_true, cond_false, true_and, and_true, Nat.reduceLT, Nat.lt_add_one, Nat.zero_lt_one, Nat.zero_le, Nat.zero_add]
              · simp only [leT, Nat.le_refl, List.map_nil, eq_self, and_self,  leH, leO, leR, leN, lkR, ren, renL, nbl, nblL, gtm, geth, remh, sub, subL, Nat.beq, cond_true, cond_false, true_and, and_true, Nat.reduceLT, Nat.lt_add_one, Nat.zero_lt_one, Nat.zero_le, Nat.zero_add]; rfl
              · simp only [hst, plnS, List.take_length, leT, Nat.le_refl, List.map_nil, eq_self, and_self,  leH, leO, leR, leN, lkR, ren, renL, nbl, nblL, gtm, geth, remh, sub, subL, Nat.beq, cond_true, cond_false, true_and, and_true, Nat.reduceLT, Nat.lt_add_one, Nat.zero_lt_one, Nat.zero_le, Nat.zero_add]
        · obtain rfl : i = p.cells.length := by omega
          have hlt1 : decide ((p.cells.length : Int) < p.cells.length) = false := decide_eq_false (by omega)
          simp only [hT, hlt1, plnS, ↓If_lit, eE, bytB, boo, eqK, isC, convK, fitsK, inst, instV, instC, instT, argTm, wpcE, SeqE, BlkE, RndE, wopsE, RetE, RetXE, RetRE, RetGE, resR, stp, bin, binI, numK, dstOf, St.ev, St.put, gtm, geth, seth, setAll, setRow, srcW, bndW, bldW, rowsW, setC, rdR, rdL, remh, Nat.beq, ofVal, resW, absC, pkR, selH, List.headD, List.toArray, AV.cells?, AV.nb, Nat.reduceAdd, Nat.reduceLT, Nat.reduceLeDiff, List.drop, List.take, puL, AV.pu, packT, List.set, List.all, AV.one, npL, AV.np, sub, subL, Int.reduceToNat]
theorem TY_reachS {P : Program} (hP : P = Tryz.prog) : (((tyT P 34 = some ((true, 7))) ∧ ((fldT P 34 3 = some ((3, (false, 1)))) ∧ (tyT P 30 = some ((false, 1))))) ∧ (((lkT P 30 = 1) ∧ (mkT P 42 = some ((1, (1, ((.bool false) :: [])))))) ∧ ((lkT P 42 = 1) ∧ (fldT P 34 4 = some ((4, (false, 1))))))) ∧ ((((tyT P 31 = some ((false, 1))) ∧ (lkT P 31 = 1)) ∧ ((elT P 31 = some ((true, (5, 56)))) ∧ (fldT P 70 1 = some ((1, (false, 1)))))) ∧ (((tyT P 3 = some ((false, 1))) ∧ (elT P 42 = some ((false, (1, 1))))) ∧ ((tyT P 4 = some ((false, 1))) ∧ (fldT P 70 0 = some ((0, (false, 1))))))) := by subst hP; refine ⟨⟨⟨?_, ⟨?_, ?_⟩⟩, ⟨⟨?_, ?_⟩, ⟨?_, ?_⟩⟩⟩, ⟨⟨⟨?_, ?_⟩, ⟨?_, ?_⟩⟩, ⟨⟨?_, ?_⟩, ⟨?_, ?_⟩⟩⟩⟩ <;> kernel_rfl
theorem reachS {P : Program} [Known P] (hP : P = Tryz.prog) (p : VPln) (hs : Sz p) (c : Int) : Fun P 16 [.agg (plnS p), .int .i64 c] (bO (reachT p c)) := by
  refine fun_of (fn := Tryz.f16) (hP ▸ Tryz.func16) (by kernel_rfl) (by kernel_rfl) (by kernel_rfl) (by kernel_rfl) ?_
  have hT := TY_reachS hP
  have oi := plnOkS hP p hs
  have l1 := fun x a b => l1In hP x a b
  clear hP
  intro hl
  clear hl
  have hcs := hs.c
  have hws := hs.w
  simp only [plnS, Tryz.f16, hT, eE, bytB, boo, eqK, isC, convK, fitsK, inst, instV, instC, instT, argTm, wpcE, SeqE, BlkE, RndE, wopsE, RetE, RetXE, RetRE, RetGE, resR, stp, bin, binI, numK, dstOf, St.ev, St.put, gtm, geth, seth, setAll, setRow, srcW, bndW, bldW, rowsW, setC, rdR, rdL, remh, Nat.beq, ofVal, resW, absC, pkR, selH, List.headD, List.toArray, AV.cells?, AV.nb, Nat.reduceAdd, Nat.reduceLT, Nat.reduceLeDiff, List.drop, List.take, puL, AV.pu, packT, List.set, List.all, AV.one, npL, AV.np, sub, subL, Int.reduceToNat]
  simp only [plnS] at oi
  refine Fun.plain (oi) rfl rfl rfl rfl ?_; simp only [hT, nneg, beq_self_eq_true, decide_true, decide_false, ↓If_lit, Int.cast_ofNat_Int, Int.reduceLT, Int.reduceLE, eE, bytB, boo, eqK, isC, convK, fitsK, inst, instV, instC, instT, argTm, wpcE, SeqE, BlkE, RndE, wopsE, RetE, RetXE, RetRE, RetGE, resR, stp, bin, binI, numK, dstOf, St.ev, St.put, gtm, geth, seth, setAll, setRow, srcW, bndW, bldW, rowsW, setC, rdR, rdL, remh, Nat.beq, ofVal, resW, absC, pkR, selH, List.headD, List.toArray, AV.cells?, AV.nb, Nat.reduceAdd, Nat.reduceLT, Nat.reduceLeDiff, List.drop, List.take, puL, AV.pu, packT, List.set, List.all, AV.one, npL, AV.np, sub, subL, Int.reduceToNat]; (try unfold lim); repeat first | ((with_reducible refine And.intro ?_ ?_); (first | omega | exact ⟨by omega, by omega⟩ | rfl)) | intro _
  unfold reachT
  refine ⟨fun q0 => ?_, fun q0 => ?_⟩
  · have q0 : (res p).isNone = false := by simpa using q0
    rw [q0]; exact ⟨by decide, by decide, rfl⟩
  · have q0 : (res p).isNone = true := by simpa using q0
    have hres : res p = none := by simpa using q0
    rw [q0, Bool.true_and]
    (try unfold lim); repeat first | ((with_reducible refine And.intro ?_ ?_); (first | omega | exact ⟨by omega, by omega⟩ | rfl)) | intro _
    refine Fun.plain (l1 _ _ _) rfl rfl rfl rfl ?_; simp only [hT, nneg, beq_self_eq_true, decide_true, decide_false, ↓If_lit, Int.cast_ofNat_Int, Int.reduceLT, Int.reduceLE, eE, bytB, boo, eqK, isC, convK, fitsK, inst, instV, instC, instT, argTm, wpcE, SeqE, BlkE, RndE, wopsE, RetE, RetXE, RetRE, RetGE, resR, stp, bin, binI, numK, dstOf, St.ev, St.put, gtm, geth, seth, setAll, setRow, srcW, bndW, bldW, rowsW, setC, rdR, rdL, remh, Nat.beq, ofVal, resW, absC, pkR, selH, List.headD, List.toArray, AV.cells?, AV.nb, Nat.reduceAdd, Nat.reduceLT, Nat.reduceLeDiff, List.drop, List.take, puL, AV.pu, packT, List.set, List.all, AV.one, npL, AV.np, sub, subL, Int.reduceToNat]; (try unfold lim); repeat first | ((with_reducible refine And.intro ?_ ?_); (first | omega | exact ⟨by omega, by omega⟩ | rfl)) | intro _
    have hh : (decide (0 ≤ c) && decide (c ≤ (p.cells.length : Int) - 1)) = has c p.cells.length := by
      unfold has
      congr 1
      exact Bool.eq_iff_iff.2 (by simp only [decide_eq_true_eq]; omega)
    rw [hh]
    refine ⟨fun q1 => ?_, fun q1 => ?_⟩
    · have q1 : has c p.cells.length = false := by simpa using q1
      rw [q1]; exact ⟨by decide, by decide, rfl⟩
    · have q1 : has c p.cells.length = true := by simpa using q1
      simp only [q1, cond_true]
      have hc := q1
      unfold has at hc
      simp only [Bool.and_eq_true, decide_eq_true_eq] at hc
      obtain ⟨hc0, hc1⟩ := hc
      have hri := fun k hk => res_ways hres k hk
      have hrl : ∀ i, (riter p.ways i (rz p.cells.length c.toNat)).length = p.cells.length := fun i => by rw [riter_length, rz_length]
      clear hh
      refine ⟨by decide, by decide, ?_⟩
      refine wpc_loop {i : Nat // i ≤ p.cells.length} (fun i => ⟨[(1, .int .i64 c), (2, .cp 0 0 0), (5, .os 1), (6, .int .i64 i.1)], [(1, bH ((rz p.cells.length c.toNat).take i.1)), (0, ⟨7, [plnS p], [], true⟩)], 2⟩) (fun i => p.cells.length - i.1) ⟨0, Nat.zero_le _⟩ (Le.of [] (Nat.zero_le _) ?_ ?_ ?_) ?_
      · simp only [leT, Nat.le_refl, List.map_nil, eq_self, and_self,  leH, leO, leR, leN, lkR, ren, renL, nbl, nblL, gtm, geth, remh, sub, subL, Nat.beq, cond_true, cond_false, true_and, and_true, Nat.reduceLT, Nat.lt_add_one, Nat.zero_lt_one, Nat.zero_le, Nat.zero_add]
      · simp only [leT, Nat.le_refl, List.map_nil, eq_self, and_self,  leH, leO, leR, leN, lkR, ren, renL, nbl, nblL, gtm, geth, remh, sub, subL, Nat.beq, cond_true, cond_false, true_and, and_true, Nat.reduceLT, Nat.lt_add_one, Nat.zero_lt_one, Nat.zero_le, Nat.zero_add]; rfl
      · simp only [plnS, List.take_zero, List.map_nil, leT, Nat.le_refl, List.map_nil, eq_self, and_self,  leH, leO, leR, leN, lkR, ren, renL, nbl, nblL, gtm, geth, remh, sub, subL, Nat.beq, cond_true, cond_false, true_and, and_true, Nat.reduceLT, Nat.lt_add_one, Nat.zero_lt_one, Nat.zero_le, Nat.zero_add]
      · rintro ⟨i, hi⟩
        by_cases hlt : i < p.cells.length
        · have hlt1 : decide ((i : Int) < p.cells.length) = true := decide_eq_true (by omega)
          have htk : (rz p.cells.length c.toNat).take (i + 1) = (rz p.cells.length c.toNat).take i ++ [decide ((i : Int) = c)] := by
            rw [List.take_add_one]
            congr 1
            rw [rz, List.getElem?_map, List.getElem?_range hlt]
            show [decide (i = c.toNat)] = _
            congr 1
            exact Bool.eq_iff_iff.2 (by simp only [decide_eq_true_eq]; omega)
          have htl : ((rz p.cells.length c.toNat).take i).length = i := by rw [List.length_take, rz_length]; omega
          generalize (rz p.cells.length c.toNat).take i = r at *
          simp only [hT, hlt1, plnS, List.length_map, htl, ↓If_lit, eE, bytB, boo, eqK, isC, convK, fitsK, inst, instV, instC, instT, argTm, wpcE, SeqE, BlkE, RndE, wopsE, RetE, RetXE, RetRE, RetGE, resR, stp, bin, binI, numK, dstOf, St.ev, St.put, gtm, geth, seth, setAll, setRow, srcW, bndW, bldW, rowsW, setC, rdR, rdL, remh, Nat.beq, ofVal, resW, absC, pkR, selH, List.headD, List.toArray, AV.cells?, AV.nb, Nat.reduceAdd, Nat.reduceLT, Nat.reduceLeDiff, List.drop, List.take, puL, AV.pu, packT, List.set, List.all, AV.one, npL, AV.np, sub, subL, Int.reduceToNat]
          (try unfold lim); repeat first | ((with_reducible refine And.intro ?_ ?_); (first | omega | exact ⟨by omega, by omega⟩ | rfl)) | intro _
          refine ⟨⟨i + 1, hlt⟩, by simp only; omega, Le.of [(1, some 3)] (Nat.zero_le _) ?_ ?_ ?_⟩
          · simp only [leT, Nat.le_refl, List.map_nil, eq_self, and_self,  leH, leO, leR, leN, lkR, ren, renL, nbl, nblL, gtm, geth, remh, sub, subL, Nat.beq, cond_true, cond_false, true_and, and_true, Nat.reduceLT, Nat.lt_add_one, Nat.zero_lt_one, Nat.zero_le, Nat.zero_add]
          · simp only [leT, Nat.le_refl, List.map_nil, eq_self, and_self,  leH, leO, leR, leN, lkR, ren, renL, nbl, nblL, gtm, geth, remh, sub, subL, Nat.beq, cond_true, cond_false, true_and, and_true, Nat.reduceLT, Nat.lt_add_one, Nat.zero_lt_one, Nat.zero_le, Nat.zero_add]; rfl
          · simp only [plnS, htk, List.map_append, leT, Nat.le_refl, List.map_nil, eq_self, and_self,  leH, leO, leR, leN, lkR, ren, renL, nbl, nblL, gtm, geth, remh, sub, subL, Nat.beq, cond_true, cond_false, true_and, and_true, Nat.reduceLT, Nat.lt_add_one, Nat.zero_lt_one, Nat.zero_le, Nat.zero_add]; rfl
        · obtain rfl : i = p.cells.length := by omega
          have hlt1 : decide ((p.cells.length : Int) < p.cells.length) = false := decide_eq_false (by omega)
          have htk : (rz p.cells.length c.toNat).take p.cells.length = rz p.cells.length c.toNat := List.take_of_length_le (by rw [rz_length]; exact Nat.le_refl _)
          rw [htk]
          simp only [hT, hlt1, plnS, ↓If_lit, eE, bytB, boo, eqK, isC, convK, fitsK, inst, instV, instC, instT, argTm, wpcE, SeqE, BlkE, RndE, wopsE, RetE, RetXE, RetRE, RetGE, resR, stp, bin, binI, numK, dstOf, St.ev, St.put, gtm, geth, seth, setAll, setRow, srcW, bndW, bldW, rowsW, setC, rdR, rdL, remh, Nat.beq, ofVal, resW, absC, pkR, selH, List.headD, List.toArray, AV.cells?, AV.nb, Nat.reduceAdd, Nat.reduceLT, Nat.reduceLeDiff, List.drop, List.take, puL, AV.pu, packT, List.set, List.all, AV.one, npL, AV.np, sub, subL, Int.reduceToNat]
          (try unfold lim); repeat first | ((with_reducible refine And.intro ?_ ?_); (first | omega | exact ⟨by omega, by omega⟩ | rfl)) | intro _
          refine wpc_loop {i : Nat // i ≤ p.cells.length} (fun i => ⟨[(2, .cp 0 0 0), (5, .os 1), (7, .int .i64 i.1)], [(1, bH (riter p.ways i.1 (rz p.cells.length c.toNat))), (0, ⟨7, [plnS p], [], true⟩)], 2⟩) (fun i => p.cells.length - i.1) ⟨0, Nat.zero_le _⟩ (Le.of [] (Nat.zero_le _) ?_ ?_ ?_) ?_
          · simp only [leT, Nat.le_refl, List.map_nil, eq_self, and_self,  leH, leO, leR, leN, lkR, ren, renL, nbl, nblL, gtm, geth, remh, sub, subL, Nat.beq, cond_true, cond_false, true_and, and_true, Nat.reduceLT, Nat.lt_add_one, Nat.zero_lt_one, Nat.zero_le, Nat.zero_add]
          · simp only [leT, Nat.le_refl, List.map_nil, eq_self, and_self,  leH, leO, leR, leN, lkR, ren, renL, nbl, nblL, gtm, geth, remh, sub, subL, Nat.beq, cond_true, cond_false, true_and, and_true, Nat.reduceLT, Nat.lt_add_one, Nat.zero_lt_one, Nat.zero_le, Nat.zero_add]; rfl
          · simp only [riter, plnS, leT, Nat.le_refl, List.map_nil, eq_self, and_self,  leH, leO, leR, leN, lkR, ren, renL, nbl, nblL, gtm, geth, remh, sub, subL, Nat.beq, cond_true, cond_false, true_and, and_true, Nat.reduceLT, Nat.lt_add_one, Nat.zero_lt_one, Nat.zero_le, Nat.zero_add]
          · rintro ⟨i, hi⟩
            have hR := hrl i
            by_cases hlt : i < p.cells.length
            · have hlt1 : decide ((i : Int) < p.cells.length) = true := decide_eq_true (by omega)
              have hst : riter p.ways (i + 1) (rz p.cells.length c.toNat) = p.ways.foldl rstep (riter p.ways i (rz p.cells.length c.toNat)) := rfl
              generalize riter p.ways i (rz p.cells.length c.toNat) = R at *
              simp only [hT, hlt1, plnS, ↓If_lit, eE, bytB, boo, eqK, isC, convK, fitsK, inst, instV, instC, instT, argTm, wpcE, SeqE, BlkE, RndE, wopsE, RetE, RetXE, RetRE, RetGE, resR, stp, bin, binI, numK, dstOf, St.ev, St.put, gtm, geth, seth, setAll, setRow, srcW, bndW, bldW, rowsW, setC, rdR, rdL, remh, Nat.beq, ofVal, resW, absC, pkR, selH, List.headD, List.toArray, AV.cells?, AV.nb, Nat.reduceAdd, Nat.reduceLT, Nat.reduceLeDiff, List.drop, List.take, puL, AV.pu, packT, List.set, List.all, AV.one, npL, AV.np, sub, subL, Int.reduceToNat]
              (try unfold lim); repeat first | ((with_reducible refine And.intro ?_ ?_); (first | omega | exact ⟨by omega, by omega⟩ | rfl)) | intro _
              refine wpc_loop {j : Nat // j ≤ p.ways.length} (fun j => ⟨[(2, .cp 0 0 0), (5, .os 1), (7, .int .i64 i), (8, .int .i64 j.1)], [(1, bH ((p.ways.take j.1).foldl rstep R)), (0, ⟨7, [plnS p], [], true⟩)], 2⟩) (fun j => p.ways.length - j.1) ⟨0, Nat.zero_le _⟩ (Le.of [] (Nat.zero_le _) ?_ ?_ ?_) ?_
              · simp only [leT, Nat.le_refl, List.map_nil, eq_self, and_self,  leH, leO, leR, leN, lkR, ren, renL, nbl, nblL, gtm, geth, remh, sub, subL, Nat.beq, cond_true, cond_false, true_and, and_true, Nat.reduceLT, Nat.lt_add_one, Nat.zero_lt_one, Nat.zero_le, Nat.zero_add]
              · simp only [leT, Nat.le_refl, List.map_nil, eq_self, and_self,  leH, leO, leR, leN, lkR, ren, renL, nbl, nblL, gtm, geth, remh, sub, subL, Nat.beq, cond_true, cond_false, true_and, and_true, Nat.reduceLT, Nat.lt_add_one, Nat.zero_lt_one, Nat.zero_le, Nat.zero_add]; rfl
              · simp only [plnS, List.take_zero, List.foldl_nil, leT, Nat.le_refl, List.map_nil, eq_self, and_self,  leH, leO, leR, leN, lkR, ren, renL, nbl, nblL, gtm, geth, remh, sub, subL, Nat.beq, cond_true, cond_false, true_and, and_true, Nat.reduceLT, Nat.lt_add_one, Nat.zero_lt_one, Nat.zero_le, Nat.zero_add]
              · rintro ⟨j, hj⟩
                by_cases hjl : j < p.ways.length
                · have hjl1 : decide ((j : Int) < p.ways.length) = true := decide_eq_true (by omega)
                  have hwj := hri j hjl
                  have hget : p.ways[j]? = some (p.way j) := by rw [VPln.way, List.getD_eq_getElem?_getD, List.getElem?_eq_getElem hjl]; rfl
                  have hfold : (p.ways.take (j + 1)).foldl rstep R = rstep ((p.ways.take j).foldl rstep R) (p.way j) := by
                    rw [List.take_add_one, hget, List.foldl_append]; rfl
                  have hRl : ((p.ways.take j).foldl rstep R).length = p.cells.length := by rw [rfold_length, hR]
                  have hrow : ∀ d, (p.ways.map wayS).getD j d = wayS (p.way j) := fun d => by
                    rw [List.getD_eq_getElem?_getD, List.getElem?_map, hget]; rfl
                  generalize (p.ways.take j).foldl rstep R = r at *
                  generalize p.way j = w at *
                  obtain ⟨hw1, hw2⟩ := hwj
                  unfold has at hw1 hw2
                  simp only [Bool.and_eq_true, decide_eq_true_eq] at hw1 hw2
                  have hrl2 : (r.map bE).length = p.cells.length := by rw [List.length_map, hRl]
                  simp only [hT, hjl1, hrow, wayS, plnS, bE_get, Int.toNat_natCast, ↓If_lit, eE, bytB, boo, eqK, isC, convK, fitsK, inst, instV, instC, instT, argTm, wpcE, SeqE, BlkE, RndE, wopsE, RetE, RetXE, RetRE, RetGE, resR, stp, bin, binI, numK, dstOf, St.ev, St.put, gtm, geth, seth, setAll, setRow, srcW, bndW, bldW, rowsW, setC, rdR, rdL, remh, Nat.beq, ofVal, resW, absC, pkR, selH, List.headD, List.toArray, AV.cells?, AV.nb, Nat.reduceAdd, Nat.reduceLT, Nat.reduceLeDiff, List.drop, List.take, puL, AV.pu, packT, List.set, List.all, AV.one, npL, AV.np, sub, subL, Int.reduceToNat]
                  (try unfold lim); repeat first | ((with_reducible refine And.intro ?_ ?_); (first | omega | exact ⟨by omega, by omega⟩ | rfl)) | intro _
                  refine ⟨fun q2 => ?_, fun q2 => ?_⟩
                  · have hs : rstep r w = r.set w.1.toNat true := by unfold rstep; rw [q2]; rfl
                    (try unfold lim); repeat first | ((with_reducible refine And.intro ?_ ?_); (first | omega | exact ⟨by omega, by omega⟩ | rfl)) | intro _
                    refine ⟨⟨j + 1, hjl⟩, by simp only; omega, Le.of [] (Nat.zero_le _) ?_ ?_ ?_⟩
                    · simp only [leT, Nat.le_refl, List.map_nil, eq_self, and_self,  leH, leO, leR, leN, lkR, ren, renL, nbl, nblL, gtm, geth, remh, sub, subL, Nat.beq, cond_true, cond_false, true_and, and_true, Nat.reduceLT, Nat.lt_add_one, Nat.zero_lt_one, Nat.zero_le, Nat.zero_add]
                    · simp only [leT, Nat.le_refl, List.map_nil, eq_self, and_self,  leH, leO, leR, leN, lkR, ren, renL, nbl, nblL, gtm, geth, remh, sub, subL, Nat.beq, cond_true, cond_false, true_and, and_true, Nat.reduceLT, Nat.lt_add_one, Nat.zero_lt_one, Nat.zero_le, Nat.zero_add]; rfl
                    · simp only [hfold, hs, List.map_set, bE, plnS, leT, Nat.le_refl, List.map_nil, eq_self, and_self,  leH, leO, leR, leN, lkR, ren, renL, nbl, nblL, gtm, geth, remh, sub, subL, Nat.beq, cond_true, cond_false, true_and, and_true, Nat.reduceLT, Nat.lt_add_one, Nat.zero_lt_one, Nat.zero_le, Nat.zero_add]
                  · have hs : rstep r w = r := by unfold rstep; rw [q2]; rfl
                    refine ⟨⟨by omega, by omega⟩, ⟨j + 1, hjl⟩, by simp only; omega, Le.of [] (Nat.zero_le _) ?_ ?_ ?_⟩
                    · simp only [leT, Nat.le_refl, List.map_nil, eq_self, and_self,  leH, leO, leR, leN, lkR, ren, renL, nbl, nblL, gtm, geth, remh, sub, subL, Nat.beq, cond_true, cond_false, true_and, and_true, Nat.reduceLT, Nat.lt_add_one, Nat.zero_lt_one, Nat.zero_le, Nat.zero_add]
                    · simp only [leT, Nat.le_refl, List.map_nil, eq_self, and_self,  leH, leO, leR, leN, lkR, ren, renL, nbl, nblL, gtm, geth, remh, sub, subL, Nat.beq, cond_true, cond_false, true_and, and_true, Nat.reduceLT, Nat.lt_add_one, Nat.zero_lt_one, Nat.zero_le, Nat.zero_add]; rfl
                    · simp only [hfold, hs, plnS, leT, Nat.le_refl, List.map_nil, eq_self, and_self,  leH, leO, leR, leN, lkR, ren, renL, nbl, nblL, gtm, geth, remh, sub, subL, Nat.beq, cond_true, cond_false, true_and, and_true, Nat.reduceLT, Nat.lt_add_one, Nat.zero_lt_one, Nat.zero_le, Nat.zero_add]
                · obtain rfl : j = p.ways.length := by omega
                  have hjl1 : decide ((p.ways.length : Int) < p.ways.length) = false := decide_eq_false (by omega)
                  simp only [hT, hjl1, plnS, ↓If_lit, eE, bytB, boo, eqK, isC, convK, fitsK, inst, instV, instC, instT, argTm, wpcE, SeqE, BlkE, RndE, wopsE, RetE, RetXE, RetRE, RetGE, resR, stp, bin, binI, numK, dstOf, St.ev, St.put, gtm, geth, seth, setAll, setRow, srcW, bndW, bldW, rowsW, setC, rdR, rdL, remh, Nat.beq, ofVal, resW, absC, pkR, selH, List.headD, List.toArray, AV.cells?, AV.nb, Nat.reduceAdd, Nat.reduceLT, Nat.reduceLeDiff, List.drop, List.take, puL, AV.pu, packT, List.set, List.all, AV.one, npL, AV.np, sub, subL, Int.reduceToNat]
                  (try unfold lim); repeat first | ((with_reducible refine And.intro ?_ ?_); (first | omega | exact ⟨by omega, by omega⟩ | rfl)) | intro _
                  refine ⟨⟨i + 1, hlt⟩, by simp only; omega, Le.of [] (Nat.zero_le _) ?_ ?_ ?_⟩
                  · simp only [leT, Nat.le_refl, List.map_nil, eq_self, and_self,  leH, leO, leR, leN, lkR, ren, renL, nbl, nblL, gtm, geth, remh, sub, subL, Nat.beq, cond_true, cond_false, true_and, and_true, Nat.reduceLT, Nat.lt_add_one, Nat.zero_lt_one, Nat.zero_le, Nat.zero_add]
                  · simp only [leT, Nat.le_refl, List.map_nil, eq_self, and_self,  leH, leO, leR, leN, lkR, ren, renL, nbl, nblL, gtm, geth, remh, sub, subL, Nat.beq, cond_true, cond_false, true_and, and_true, Nat.reduceLT, Nat.lt_add_one, Nat.zero_lt_one, Nat.zero_le, Nat.zero_add]; rfl
                  · simp only [hst, plnS, List.take_length, leT, Nat.le_refl, List.map_nil, eq_self, and_self,  leH, leO, leR, leN, lkR, ren, renL, nbl, nblL, gtm, geth, remh, sub, subL, Nat.beq, cond_true, cond_false, true_and, and_true, Nat.reduceLT, Nat.lt_add_one, Nat.zero_lt_one, Nat.zero_le, Nat.zero_add]
            · obtain rfl : i = p.cells.length := by omega
              have hlt1 : decide ((p.cells.length : Int) < p.cells.length) = false := decide_eq_false (by omega)
              simp only [hT, hlt1, plnS, ↓If_lit, eE, bytB, boo, eqK, isC, convK, fitsK, inst, instV, instC, instT, argTm, wpcE, SeqE, BlkE, RndE, wopsE, RetE, RetXE, RetRE, RetGE, resR, stp, bin, binI, numK, dstOf, St.ev, St.put, gtm, geth, seth, setAll, setRow, srcW, bndW, bldW, rowsW, setC, rdR, rdL, remh, Nat.beq, ofVal, resW, absC, pkR, selH, List.headD, List.toArray, AV.cells?, AV.nb, Nat.reduceAdd, Nat.reduceLT, Nat.reduceLeDiff, List.drop, List.take, puL, AV.pu, packT, List.set, List.all, AV.one, npL, AV.np, sub, subL, Int.reduceToNat]
              (try unfold lim); repeat first | ((with_reducible refine And.intro ?_ ?_); (first | omega | exact ⟨by omega, by omega⟩ | rfl)) | intro _
              first | done | trivial | rfl
end Go.Proofs.YtnhcchmbdkiodaaGreat.C
