/- Lines read as orders, by both texts. -/
import Derived.Test.YtiaokhgfolbhnaaDoorCWord
set_option maxRecDepth 100000
set_option maxHeartbeats 4000000
set_option linter.unusedSimpArgs false
set_option linter.unusedVariables false
namespace Go.Proofs.YtiaokhgfolbhnaaDoor.C
open Go Go.Av Go.Proofs
def readT (o : Option VOrd) : AV := .tup [.agg (ordE (o.getD o0)), .bool o.isSome]
def strE (w : List UInt8) : List AV := [.str ⟨w.toArray⟩]
theorem codF_step {ws : List (List UInt8)} {k : Nat} (hk : k < 14) (h : trI (k + 1) ws = none) : codF ws (14 - k) (k + 1) = codF ws (14 - (k + 1)) (k + 1 + 1) := by
  obtain ⟨f, hf⟩ : ∃ f, 14 - k = f + 1 := ⟨13 - k, by omega⟩
  rw [hf, codF, h, show 14 - (k + 1) = f by omega]
theorem codF_hit {ws : List (List UInt8)} {k : Nat} {o : VOrd} (hk : k < 14) (h : trI (k + 1) ws = some o) : codF ws (14 - k) (k + 1) = some o := by
  obtain ⟨f, hf⟩ : ∃ f, 14 - k = f + 1 := ⟨13 - k, by omega⟩
  rw [hf, codF, h]
def pv (r : List (List UInt8)) (j i : Nat) : Int := if i < j then ((rdn (r.getD i [])).getD 0 : Nat) else 0
theorem str_eq (a b : List UInt8) : decide ((⟨⟨a⟩⟩ : ByteArray) = ⟨⟨b⟩⟩) = decide (a = b) := by
  by_cases h : a = b
  · subst h; simp
  · rw [decide_eq_false h, decide_eq_false]
    intro e; injection e with e; injection e with e; exact h e
theorem none_sub : sub (.tup [.agg [.int .i64 0, .int .i64 0, .int .i64 0, .int .i64 0], .bool false]) (readT none) := by
  simp only [readT, ordE, Option.getD_none, Option.isSome_none, List.append_eq, bytB, boo, eqK, isC, convK, fitsK, List.length_append, inst, instV, instC, instT, Bool.and_false, Bool.true_and, Bool.false_and, Bool.and_true, Bool.or_true, Bool.or_false, argTm, Option.getD_some, wpcE, SeqE, BlkE, RndE, wopsE, RetE, RetXE, RetRE, resR, stp, bin, binI, numK, dstOf, St.ev, St.put, gtm, geth, seth, setAll, setRow, srcW, bndW, bldW, rowsW, setC, rdR, rdL, remh, Nat.beq, cond_true, cond_false, ofVal, resW, absC, pkR, selH, List.headD, true_and, and_true, List.toArray, AV.cells?, AV.nb, List.map_cons, List.map_nil, List.length_cons, List.length_nil, List.getD_cons_zero, List.getD_cons_succ, Nat.zero_add, Nat.reduceAdd, Nat.reduceLT, Nat.reduceLeDiff, List.drop, List.take, puL, AV.pu, Bool.and_self, packT, Nat.lt_add_one, Nat.le_refl, Bool.not_true, Bool.not_false, List.set, List.all, AV.one, List.cons_append, List.nil_append, Bool.true_or, Bool.false_or, npL, AV.np, sub, subL, List.length_map, Bool.or_self, Nat.add_zero, Int.toNat_natCast, Int.reduceToNat, List.replicate_zero, Int.toNat_zero]
theorem pv_end (x : List UInt8) (r : List (List UInt8)) (i : Nat) : pv r r.length i = atI (x :: r) i := by
  unfold pv atI
  rw [List.getD_cons_succ]
  split
  · rfl
  · rw [List.getD_eq_getElem?_getD, List.getElem?_eq_none (by omega)]; rfl
theorem allN_of {x : List UInt8} {r : List (List UInt8)} (h : ∀ i < r.length, (rdn (r.getD i [])).isSome = true) : allN (x :: r) = true := by
  unfold allN
  rw [List.tail_cons, List.all_eq_true]
  intro w hw
  obtain ⟨i, hi, rfl⟩ := List.getElem_of_mem hw
  have := h i hi
  rwa [List.getD_eq_getElem?_getD, List.getElem?_eq_getElem hi] at this
theorem allN_not {x : List UInt8} {r : List (List UInt8)} {i : Nat} (hi : i < r.length) (h : (rdn (r.getD i [])).isSome = false) (n : Nat) : trI n (x :: r) = none := by
  have : allN (x :: r) = false := by
    unfold allN
    rw [List.tail_cons, List.all_eq_false]
    refine ⟨r[i], List.getElem_mem _, ?_⟩
    rw [List.getD_eq_getElem?_getD, List.getElem?_eq_getElem hi, Option.getD_some] at h
    simp [h]
  unfold trI
  rw [this, Bool.false_and, Bool.and_false]; rfl
theorem TY_readI {P : Program} (hP : P = Tryd.prog) : ((((P.follows .mixedOrders = true) ∧ (zeroT P 53 = some (((.int .i64 0) :: ((.int .i64 0) :: ((.int .i64 0) :: ((.int .i64 0) :: []))))))) ∧ ((elT P 90 = some ((false, (1, 16)))) ∧ (tyT P 9 = some ((false, 1))))) ∧ (((lkT P 90 = 1) ∧ (lkT P 9 = 2)) ∧ ((zeroT P 89 = some (((.int .i64 0) :: ((.int .i64 0) :: ((.int .i64 0) :: []))))) ∧ (arT P 90 = none)))) ∧ ((((bldT P 53 = true) ∧ (tyT P 53 = some ((true, 4)))) ∧ ((elT P 89 = none) ∧ (arT P 89 = some ((3, (false, 1)))))) ∧ (((tyT P 3 = some ((false, 1))) ∧ (plT P 53 0 = some ((0, 1)))) ∧ ((plT P 53 1 = some ((1, 1))) ∧ ((plT P 53 2 = some ((2, 1))) ∧ (plT P 53 3 = some ((3, 1))))))) := by subst hP; refine ⟨⟨⟨⟨?_, ?_⟩, ⟨?_, ?_⟩⟩, ⟨⟨?_, ?_⟩, ⟨?_, ?_⟩⟩⟩, ⟨⟨⟨?_, ?_⟩, ⟨?_, ?_⟩⟩, ⟨⟨?_, ?_⟩, ⟨?_, ⟨?_, ?_⟩⟩⟩⟩⟩ <;> kernel_rfl
theorem readCI {P : Program} [Known P] (hP : P = Tryd.prog) (s : ByteArray) (hs : s.size ≤ 1048576) : Fun P 40 [.str s] (readT (codR s.data.toList)) := by
  refine fun_of (fn := Tryd.f40) (hP ▸ Tryd.func40) (by kernel_rfl) (by kernel_rfl) (by kernel_rfl) (by kernel_rfl) ?_
  have hT := TY_readI hP
  have hm : P.follows .mixedOrders = true := by subst hP; kernel_rfl
  have sl := split hP s (by omega)
  have oo := fun n => opOkI hP n
  have ww := fun n => wordI hP n
  have kk := fun n => kindsI hP n
  have tt := fun w h => txtNum hP w h
  have ok := fun o => ordOkI hP o
  clear hP
  intro hl
  clear hl
  have hwl := spl_mem s.data.toList
  have hsl : s.data.toList.length = s.size := rfl
  have hne := spl_ne s.data.toList
  have hcnt := spl_length s.data.toList
  have hcc : s.data.toList.count 32 ≤ s.data.toList.length := List.count_le_length
  unfold codR
  generalize spl s.data.toList = ws at *
  obtain ⟨x, r, rfl⟩ := List.exists_cons_of_ne_nil hne
  clear hne
  simp only [List.length_cons] at hcnt
  simp only [Tryd.f40, hT, List.append_eq, bytB, boo, eqK, isC, convK, fitsK, List.length_append, inst, instV, instC, instT, Bool.and_false, Bool.true_and, Bool.false_and, Bool.and_true, Bool.or_true, Bool.or_false, argTm, Option.getD_some, wpcE, SeqE, BlkE, RndE, wopsE, RetE, RetXE, RetRE, resR, stp, bin, binI, numK, dstOf, St.ev, St.put, gtm, geth, seth, setAll, setRow, srcW, bndW, bldW, rowsW, setC, rdR, rdL, remh, Nat.beq, cond_true, cond_false, ofVal, resW, absC, pkR, selH, List.headD, true_and, and_true, List.toArray, AV.cells?, AV.nb, List.map_cons, List.map_nil, List.length_cons, List.length_nil, List.getD_cons_zero, List.getD_cons_succ, Nat.zero_add, Nat.reduceAdd, Nat.reduceLT, Nat.reduceLeDiff, List.drop, List.take, puL, AV.pu, Bool.and_self, packT, Nat.lt_add_one, Nat.le_refl, Bool.not_true, Bool.not_false, List.set, List.all, AV.one, List.cons_append, List.nil_append, Bool.true_or, Bool.false_or, npL, AV.np, sub, subL, List.length_map, Bool.or_self, Nat.add_zero, Int.toNat_natCast, Int.reduceToNat, List.replicate_zero, Int.toNat_zero]
  refine Fun.plain (sl) rfl rfl rfl rfl ?_; simp only [hT, nneg, beq_self_eq_true, decide_true, decide_false, ↓If_lit, Int.cast_ofNat_Int, Int.reduceLT, Int.reduceLE, List.append_eq, bytB, boo, eqK, isC, convK, fitsK, List.length_append, inst, instV, instC, instT, Bool.and_false, Bool.true_and, Bool.false_and, Bool.and_true, Bool.or_true, Bool.or_false, argTm, Option.getD_some, wpcE, SeqE, BlkE, RndE, wopsE, RetE, RetXE, RetRE, resR, stp, bin, binI, numK, dstOf, St.ev, St.put, gtm, geth, seth, setAll, setRow, srcW, bndW, bldW, rowsW, setC, rdR, rdL, remh, Nat.beq, cond_true, cond_false, ofVal, resW, absC, pkR, selH, List.headD, true_and, and_true, List.toArray, AV.cells?, AV.nb, List.map_cons, List.map_nil, List.length_cons, List.length_nil, List.getD_cons_zero, List.getD_cons_succ, Nat.zero_add, Nat.reduceAdd, Nat.reduceLT, Nat.reduceLeDiff, List.drop, List.take, puL, AV.pu, Bool.and_self, packT, Nat.lt_add_one, Nat.le_refl, Bool.not_true, Bool.not_false, List.set, List.all, AV.one, List.cons_append, List.nil_append, Bool.true_or, Bool.false_or, npL, AV.np, sub, subL, List.length_map, Bool.or_self, Nat.add_zero, Int.toNat_natCast, Int.reduceToNat, List.replicate_zero, Int.toNat_zero]; (try unfold lim); repeat first | ((with_reducible refine And.intro ?_ ?_); (first | omega | exact ⟨by omega, by omega⟩ | rfl)) | intro _
  refine wpc_loop {k : Nat // k ≤ 14 ∧ codF (x :: r) (14 - k) (k + 1) = codF (x :: r) 14 1} (fun k => ⟨[(2, .cp 0 0 0), (3, .ff), (4, .sl 1 (strE x :: r.map strE) [.str ⟨#[]⟩]), (5, .int .i64 (k.1 + 1))], [(0, ⟨4, [[.int .i64 0, .int .i64 0, .int .i64 0, .int .i64 0]], [], true⟩)], 1⟩) (fun k => 14 - k.1) ⟨0, by omega, rfl⟩ (Le.of [] (Nat.zero_le _) ?_ ?_ ?_) ?_
  · simp only [leT, Nat.le_refl, List.map_nil, eq_self, and_self,  leH, leO, leR, leN, lkR, ren, renL, nbl, nblL, gtm, geth, remh, sub, subL, Nat.beq, cond_true, cond_false, true_and, and_true, Nat.reduceLT, Nat.lt_add_one, Nat.zero_lt_one, Nat.zero_le, Nat.zero_add]
  · simp only [leT, Nat.le_refl, List.map_nil, eq_self, and_self,  leH, leO, leR, leN, lkR, ren, renL, nbl, nblL, gtm, geth, remh, sub, subL, Nat.beq, cond_true, cond_false, true_and, and_true, Nat.reduceLT, Nat.lt_add_one, Nat.zero_lt_one, Nat.zero_le, Nat.zero_add]; exact ⟨rfl, rfl⟩
  · simp only [leT, Nat.le_refl, List.map_nil, eq_self, and_self,  leH, leO, leR, leN, lkR, ren, renL, nbl, nblL, gtm, geth, remh, sub, subL, Nat.beq, cond_true, cond_false, true_and, and_true, Nat.reduceLT, Nat.lt_add_one, Nat.zero_lt_one, Nat.zero_le, Nat.zero_add]
  · rintro ⟨k, hk, hinv⟩
    simp only [hT, List.append_eq, bytB, boo, eqK, isC, convK, fitsK, List.length_append, inst, instV, instC, instT, Bool.and_false, Bool.true_and, Bool.false_and, Bool.and_true, Bool.or_true, Bool.or_false, argTm, Option.getD_some, wpcE, SeqE, BlkE, RndE, wopsE, RetE, RetXE, RetRE, resR, stp, bin, binI, numK, dstOf, St.ev, St.put, gtm, geth, seth, setAll, setRow, srcW, bndW, bldW, rowsW, setC, rdR, rdL, remh, Nat.beq, cond_true, cond_false, ofVal, resW, absC, pkR, selH, List.headD, true_and, and_true, List.toArray, AV.cells?, AV.nb, List.map_cons, List.map_nil, List.length_cons, List.length_nil, List.getD_cons_zero, List.getD_cons_succ, Nat.zero_add, Nat.reduceAdd, Nat.reduceLT, Nat.reduceLeDiff, List.drop, List.take, puL, AV.pu, Bool.and_self, packT, Nat.lt_add_one, Nat.le_refl, Bool.not_true, Bool.not_false, List.set, List.all, AV.one, List.cons_append, List.nil_append, Bool.true_or, Bool.false_or, npL, AV.np, sub, subL, List.length_map, Bool.or_self, Nat.add_zero, Int.toNat_natCast, Int.reduceToNat, List.replicate_zero, Int.toNat_zero]
    refine Fun.plain (oo _) rfl rfl rfl rfl ?_; simp only [hT, nneg, beq_self_eq_true, decide_true, decide_false, ↓If_lit, Int.cast_ofNat_Int, Int.reduceLT, Int.reduceLE, List.append_eq, bytB, boo, eqK, isC, convK, fitsK, List.length_append, inst, instV, instC, instT, Bool.and_false, Bool.true_and, Bool.false_and, Bool.and_true, Bool.or_true, Bool.or_false, argTm, Option.getD_some, wpcE, SeqE, BlkE, RndE, wopsE, RetE, RetXE, RetRE, resR, stp, bin, binI, numK, dstOf, St.ev, St.put, gtm, geth, seth, setAll, setRow, srcW, bndW, bldW, rowsW, setC, rdR, rdL, remh, Nat.beq, cond_true, cond_false, ofVal, resW, absC, pkR, selH, List.headD, true_and, and_true, List.toArray, AV.cells?, AV.nb, List.map_cons, List.map_nil, List.length_cons, List.length_nil, List.getD_cons_zero, List.getD_cons_succ, Nat.zero_add, Nat.reduceAdd, Nat.reduceLT, Nat.reduceLeDiff, List.drop, List.take, puL, AV.pu, Bool.and_self, packT, Nat.lt_add_one, Nat.le_refl, Bool.not_true, Bool.not_false, List.set, List.all, AV.one, List.cons_append, List.nil_append, Bool.true_or, Bool.false_or, npL, AV.np, sub, subL, List.length_map, Bool.or_self, Nat.add_zero, Int.toNat_natCast, Int.reduceToNat, List.replicate_zero, Int.toNat_zero]; (try unfold lim); repeat first | ((with_reducible refine And.intro ?_ ?_); (first | omega | exact ⟨by omega, by omega⟩ | rfl)) | intro _
    refine ⟨fun q => ?_, fun q => ?_⟩
    · unfold opOk at q
      simp only [Bool.and_eq_true, decide_eq_true_eq] at q
      have hk14 : k < 14 := by omega
      refine wpc_read [0, 1, 2, 3, 4, 5, 6, 7, 8, 9, 10, 11, 12, 13, 14] hm (by kernel_rfl) ?_
      have hk1 : ((k : Int) + 1).toNat = k + 1 := by omega
      have hkd := kd_len (k + 1)
      have hksz : ByteArray.size ⟨⟨kd (k + 1)⟩⟩ = (kd (k + 1)).length := rfl
      simp only [hT, strE, wtrE, wthE, hstE, pstE, Pk, eq_self, gOp, ↓If_lit, lenP, List.getElem?_cons_zero, List.getElem?_cons_succ, Nat.reduceSub, reduceCtorEq, List.append_eq, bytB, boo, eqK, isC, convK, fitsK, List.length_append, inst, instV, instC, instT, Bool.and_false, Bool.true_and, Bool.false_and, Bool.and_true, Bool.or_true, Bool.or_false, argTm, Option.getD_some, wpcE, SeqE, BlkE, RndE, wopsE, RetE, RetXE, RetRE, resR, stp, bin, binI, numK, dstOf, St.ev, St.put, gtm, geth, seth, setAll, setRow, srcW, bndW, bldW, rowsW, setC, rdR, rdL, remh, Nat.beq, cond_true, cond_false, ofVal, resW, absC, pkR, selH, List.headD, true_and, and_true, List.toArray, AV.cells?, AV.nb, List.map_cons, List.map_nil, List.length_cons, List.length_nil, List.getD_cons_zero, List.getD_cons_succ, Nat.zero_add, Nat.reduceAdd, Nat.reduceLT, Nat.reduceLeDiff, List.drop, List.take, puL, AV.pu, Bool.and_self, packT, Nat.lt_add_one, Nat.le_refl, Bool.not_true, Bool.not_false, List.set, List.all, AV.one, List.cons_append, List.nil_append, Bool.true_or, Bool.false_or, npL, AV.np, sub, subL, List.length_map, Bool.or_self, Nat.add_zero, Int.toNat_natCast, Int.reduceToNat, List.replicate_zero, Int.toNat_zero]
      refine Fun.pcall (ww _) (by exact rfl) rfl rfl rfl rfl ?_; simp only [hT, nneg, decide_true, decide_false, ↓If_lit, Int.cast_ofNat_Int, Int.reduceLT, Int.reduceLE, strE, hk1, str_eq, wtrE, wthE, hstE, pstE, Pk, eq_self, gOp, ↓If_lit, lenP, List.getElem?_cons_zero, List.getElem?_cons_succ, Nat.reduceSub, reduceCtorEq, List.append_eq, bytB, boo, eqK, isC, convK, fitsK, List.length_append, inst, instV, instC, instT, Bool.and_false, Bool.true_and, Bool.false_and, Bool.and_true, Bool.or_true, Bool.or_false, argTm, Option.getD_some, wpcE, SeqE, BlkE, RndE, wopsE, RetE, RetXE, RetRE, resR, stp, bin, binI, numK, dstOf, St.ev, St.put, gtm, geth, seth, setAll, setRow, srcW, bndW, bldW, rowsW, setC, rdR, rdL, remh, Nat.beq, cond_true, cond_false, ofVal, resW, absC, pkR, selH, List.headD, true_and, and_true, List.toArray, AV.cells?, AV.nb, List.map_cons, List.map_nil, List.length_cons, List.length_nil, List.getD_cons_zero, List.getD_cons_succ, Nat.zero_add, Nat.reduceAdd, Nat.reduceLT, Nat.reduceLeDiff, List.drop, List.take, puL, AV.pu, Bool.and_self, packT, Nat.lt_add_one, Nat.le_refl, Bool.not_true, Bool.not_false, List.set, List.all, AV.one, List.cons_append, List.nil_append, Bool.true_or, Bool.false_or, npL, AV.np, sub, subL, List.length_map, Bool.or_self, Nat.add_zero, Int.toNat_natCast, Int.reduceToNat, List.replicate_zero, Int.toNat_zero]; (try unfold lim); repeat first | ((with_reducible refine And.intro ?_ ?_); (first | omega | exact ⟨by omega, by omega⟩ | rfl)) | intro _
      refine ⟨fun q1 => ?_, fun q1 => ?_⟩
      · -- another word
        have q1 : ¬wd (k + 1) = x := by simpa using q1
        have ht : trI (k + 1) (x :: r) = none := by unfold trI mt; simp [q1]
        refine ⟨⟨by omega, by omega⟩, ⟨k + 1, by omega, by rw [← hinv, codF_step hk14 ht]⟩, by simp only; omega, Le.of [] (Nat.zero_le _) ?_ ?_ ?_⟩ <;> simp only [strE, leT, Nat.le_refl, List.map_nil, eq_self, and_self,  leH, leO, leR, leN, lkR, ren, renL, nbl, nblL, gtm, geth, remh, sub, subL, Nat.beq, cond_true, cond_false, true_and, and_true, Nat.reduceLT, Nat.lt_add_one, Nat.zero_lt_one, Nat.zero_le, Nat.zero_add]
        rfl
      · have q1 : wd (k + 1) = x := by simpa using q1
        (try unfold lim); repeat first | ((with_reducible refine And.intro ?_ ?_); (first | omega | exact ⟨by omega, by omega⟩ | rfl)) | intro _
        refine Fun.pcall (kk _) (by exact rfl) rfl rfl rfl rfl ?_; simp only [hT, nneg, decide_true, decide_false, ↓If_lit, Int.cast_ofNat_Int, Int.reduceLT, Int.reduceLE, strE, hk1, hksz, wtrE, wthE, hstE, pstE, Pk, eq_self, gOp, ↓If_lit, lenP, List.getElem?_cons_zero, List.getElem?_cons_succ, Nat.reduceSub, reduceCtorEq, List.append_eq, bytB, boo, eqK, isC, convK, fitsK, List.length_append, inst, instV, instC, instT, Bool.and_false, Bool.true_and, Bool.false_and, Bool.and_true, Bool.or_true, Bool.or_false, argTm, Option.getD_some, wpcE, SeqE, BlkE, RndE, wopsE, RetE, RetXE, RetRE, resR, stp, bin, binI, numK, dstOf, St.ev, St.put, gtm, geth, seth, setAll, setRow, srcW, bndW, bldW, rowsW, setC, rdR, rdL, remh, Nat.beq, cond_true, cond_false, ofVal, resW, absC, pkR, selH, List.headD, true_and, and_true, List.toArray, AV.cells?, AV.nb, List.map_cons, List.map_nil, List.length_cons, List.length_nil, List.getD_cons_zero, List.getD_cons_succ, Nat.zero_add, Nat.reduceAdd, Nat.reduceLT, Nat.reduceLeDiff, List.drop, List.take, puL, AV.pu, Bool.and_self, packT, Nat.lt_add_one, Nat.le_refl, Bool.not_true, Bool.not_false, List.set, List.all, AV.one, List.cons_append, List.nil_append, Bool.true_or, Bool.false_or, npL, AV.np, sub, subL, List.length_map, Bool.or_self, Nat.add_zero, Int.toNat_natCast, Int.reduceToNat, List.replicate_zero, Int.toNat_zero]; (try unfold lim); repeat first | ((with_reducible refine And.intro ?_ ?_); (first | omega | exact ⟨by omega, by omega⟩ | rfl)) | intro _
        refine ⟨fun q2 => ?_, fun q2 => ?_⟩
        · have q2 : ¬((r.length + 1 : Nat) : Int) = 1 + (kd (k + 1)).length := by simpa using q2
          have ht : trI (k + 1) (x :: r) = none := by
            unfold trI mt
            rw [decide_eq_false (show ¬(x :: r).length = 1 + (kd (k + 1)).length by simp only [List.length_cons]; omega)]
            simp
          refine ⟨⟨by omega, by omega⟩, ⟨k + 1, by omega, by rw [← hinv, codF_step hk14 ht]⟩, by simp only; omega, Le.of [] (Nat.zero_le _) ?_ ?_ ?_⟩ <;> simp only [strE, leT, Nat.le_refl, List.map_nil, eq_self, and_self,  leH, leO, leR, leN, lkR, ren, renL, nbl, nblL, gtm, geth, remh, sub, subL, Nat.beq, cond_true, cond_false, true_and, and_true, Nat.reduceLT, Nat.lt_add_one, Nat.zero_lt_one, Nat.zero_le, Nat.zero_add]
          rfl
        · have q2 : ((r.length + 1 : Nat) : Int) = 1 + (kd (k + 1)).length := by simpa using q2
          have hmt : mt (k + 1) (x :: r) = true := by
            unfold mt
            rw [decide_eq_true (show (x :: r).length = 1 + (kd (k + 1)).length by simp only [List.length_cons]; omega)]
            simp [q1]
          have hr3 : r.length ≤ 3 := by omega
          (try unfold lim); repeat first | ((with_reducible refine And.intro ?_ ?_); (first | omega | exact ⟨by omega, by omega⟩ | rfl)) | intro _
          refine wpc_loop {j : Nat // j ≤ r.length ∧ ∀ i < j, (rdn (r.getD i [])).isSome = true} (fun j => ⟨[(2, .cp 0 0 0), (3, .ff), (4, .sl 1 (strE x :: r.map strE) [.str ⟨#[]⟩]), (5, .int .i64 (k + 1)), (6, .cp 1 0 0), (34, .sl 1 (r.map strE) [.str ⟨#[]⟩]), (35, .int .i64 r.length), (36, .int .i64 j.1)], [(1, ⟨3, [[.int .i64 (pv r j.1 0), .int .i64 (pv r j.1 1), .int .i64 (pv r j.1 2)]], [], true⟩), (0, ⟨4, [[.int .i64 0, .int .i64 0, .int .i64 0, .int .i64 0]], [], true⟩)], 2⟩) (fun j => r.length - j.1) ⟨0, Nat.zero_le _, fun i hi => by omega⟩ (Le.of [] (Nat.zero_le _) ?_ ?_ ?_) ?_
          · simp only [leT, Nat.le_refl, List.map_nil, eq_self, and_self,  leH, leO, leR, leN, lkR, ren, renL, nbl, nblL, gtm, geth, remh, sub, subL, Nat.beq, cond_true, cond_false, true_and, and_true, Nat.reduceLT, Nat.lt_add_one, Nat.zero_lt_one, Nat.zero_le, Nat.zero_add]
          · simp only [strE, leT, Nat.le_refl, List.map_nil, eq_self, and_self,  leH, leO, leR, leN, lkR, ren, renL, nbl, nblL, gtm, geth, remh, sub, subL, Nat.beq, cond_true, cond_false, true_and, and_true, Nat.reduceLT, Nat.lt_add_one, Nat.zero_lt_one, Nat.zero_le, Nat.zero_add]
            rw [List.take_of_length_le (by simp)]
            exact ⟨rfl, by simp, rfl⟩
          · simp only [pv, Nat.not_lt_zero, if_false, leT, Nat.le_refl, List.map_nil, eq_self, and_self,  leH, leO, leR, leN, lkR, ren, renL, nbl, nblL, gtm, geth, remh, sub, subL, Nat.beq, cond_true, cond_false, true_and, and_true, Nat.reduceLT, Nat.lt_add_one, Nat.zero_lt_one, Nat.zero_le, Nat.zero_add]
          · rintro ⟨j, hj, hall⟩
            by_cases hjl : j < r.length
            · have hlt' : decide ((j : Int) < r.length) = true := decide_eq_true (by omega)
              have hgi : ∀ d, (r.map strE).getD j d = strE (r.getD j []) := fun d => by
                simp only [List.getD_eq_getElem?_getD, List.getElem?_map, List.getElem?_eq_getElem hjl, Option.map_some, Option.getD_some]
              have hwj : (r.getD j []).length ≤ lim := by
                have := hwl (r.getD j []) (by
                  rw [List.getD_eq_getElem?_getD, List.getElem?_eq_getElem hjl, Option.getD_some]
                  exact List.mem_cons_of_mem _ (List.getElem_mem _))
                unfold lim; omega
              have tj := tt (r.getD j []) hwj
              have hlt'' : (j : Int) < r.length := by omega
              unfold txtA at tj
              have hj3 : j = 0 ∨ j = 1 ∨ j = 2 := by omega
              rcases hj3 with rfl | rfl | rfl
              · simp only [hT, hlt', hgi, strE, ↓If_lit, Int.toNat_natCast, List.append_eq, bytB, boo, eqK, isC, convK, fitsK, List.length_append, inst, instV, instC, instT, Bool.and_false, Bool.true_and, Bool.false_and, Bool.and_true, Bool.or_true, Bool.or_false, argTm, Option.getD_some, wpcE, SeqE, BlkE, RndE, wopsE, RetE, RetXE, RetRE, resR, stp, bin, binI, numK, dstOf, St.ev, St.put, gtm, geth, seth, setAll, setRow, srcW, bndW, bldW, rowsW, setC, rdR, rdL, remh, Nat.beq, cond_true, cond_false, ofVal, resW, absC, pkR, selH, List.headD, true_and, and_true, List.toArray, AV.cells?, AV.nb, List.map_cons, List.map_nil, List.length_cons, List.length_nil, List.getD_cons_zero, List.getD_cons_succ, Nat.zero_add, Nat.reduceAdd, Nat.reduceLT, Nat.reduceLeDiff, List.drop, List.take, puL, AV.pu, Bool.and_self, packT, Nat.lt_add_one, Nat.le_refl, Bool.not_true, Bool.not_false, List.set, List.all, AV.one, List.cons_append, List.nil_append, Bool.true_or, Bool.false_or, npL, AV.np, sub, subL, List.length_map, Bool.or_self, Nat.add_zero, Int.toNat_natCast, Int.reduceToNat, List.replicate_zero, Int.toNat_zero]
                (try unfold lim); repeat first | ((with_reducible refine And.intro ?_ ?_); (first | omega | exact ⟨by omega, by omega⟩ | rfl)) | intro _
                refine Fun.plain tj rfl rfl rfl rfl ?_
                simp only [hT, ↓If_lit, Int.cast_ofNat_Int, Int.reduceLT, Int.reduceLE, Int.reduceToNat, Nat.reduceMul, Nat.zero_mul, List.append_eq, bytB, boo, eqK, isC, convK, fitsK, List.length_append, inst, instV, instC, instT, Bool.and_false, Bool.true_and, Bool.false_and, Bool.and_true, Bool.or_true, Bool.or_false, argTm, Option.getD_some, wpcE, SeqE, BlkE, RndE, wopsE, RetE, RetXE, RetRE, resR, stp, bin, binI, numK, dstOf, St.ev, St.put, gtm, geth, seth, setAll, setRow, srcW, bndW, bldW, rowsW, setC, rdR, rdL, remh, Nat.beq, cond_true, cond_false, ofVal, resW, absC, pkR, selH, List.headD, true_and, and_true, List.toArray, AV.cells?, AV.nb, List.map_cons, List.map_nil, List.length_cons, List.length_nil, List.getD_cons_zero, List.getD_cons_succ, Nat.zero_add, Nat.reduceAdd, Nat.reduceLT, Nat.reduceLeDiff, List.drop, List.take, puL, AV.pu, Bool.and_self, packT, Nat.lt_add_one, Nat.le_refl, Bool.not_true, Bool.not_false, List.set, List.all, AV.one, List.cons_append, List.nil_append, Bool.true_or, Bool.false_or, npL, AV.np, sub, subL, List.length_map, Bool.or_self, Nat.add_zero, Int.toNat_natCast, Int.reduceToNat, List.replicate_zero, Int.toNat_zero]
                (try unfold lim); repeat first | ((with_reducible refine And.intro ?_ ?_); (first | omega | exact ⟨by omega, by omega⟩ | rfl)) | intro _
                refine ⟨fun q3 => ?_, fun q3 => ?_⟩
                · have q3 : (rdn (r.getD 0 [])).isSome = false := by simpa using q3
                  rw [codF_none (fun n => allN_not hjl q3 n)]
                  exact none_sub
                · have q3 : (rdn (r.getD 0 [])).isSome = true := by simpa using q3
                  refine ⟨⟨by decide, by decide⟩, ⟨0 + 1, by omega, fun i hi => ?_⟩, by simp only; omega, Le.of [] (Nat.zero_le _) ?_ ?_ ?_⟩
                  · by_cases h : i = 0
                    · subst h; exact q3
                    · exact hall i (by omega)
                  · simp only [leT, Nat.le_refl, List.map_nil, eq_self, and_self,  leH, leO, leR, leN, lkR, ren, renL, nbl, nblL, gtm, geth, remh, sub, subL, Nat.beq, cond_true, cond_false, true_and, and_true, Nat.reduceLT, Nat.lt_add_one, Nat.zero_lt_one, Nat.zero_le, Nat.zero_add]
                  · simp only [strE, leT, Nat.le_refl, List.map_nil, eq_self, and_self,  leH, leO, leR, leN, lkR, ren, renL, nbl, nblL, gtm, geth, remh, sub, subL, Nat.beq, cond_true, cond_false, true_and, and_true, Nat.reduceLT, Nat.lt_add_one, Nat.zero_lt_one, Nat.zero_le, Nat.zero_add]; rfl
                  · simp only [leT, Nat.le_refl, List.map_nil, eq_self, and_self,  leH, leO, leR, leN, lkR, ren, renL, nbl, nblL, gtm, geth, remh, sub, subL, Nat.beq, cond_true, cond_false, true_and, and_true, Nat.reduceLT, Nat.lt_add_one, Nat.zero_lt_one, Nat.zero_le, Nat.zero_add]; simp [pv]
              · simp only [hT, hlt', hgi, strE, ↓If_lit, Int.toNat_natCast, List.append_eq, bytB, boo, eqK, isC, convK, fitsK, List.length_append, inst, instV, instC, instT, Bool.and_false, Bool.true_and, Bool.false_and, Bool.and_true, Bool.or_true, Bool.or_false, argTm, Option.getD_some, wpcE, SeqE, BlkE, RndE, wopsE, RetE, RetXE, RetRE, resR, stp, bin, binI, numK, dstOf, St.ev, St.put, gtm, geth, seth, setAll, setRow, srcW, bndW, bldW, rowsW, setC, rdR, rdL, remh, Nat.beq, cond_true, cond_false, ofVal, resW, absC, pkR, selH, List.headD, true_and, and_true, List.toArray, AV.cells?, AV.nb, List.map_cons, List.map_nil, List.length_cons, List.length_nil, List.getD_cons_zero, List.getD_cons_succ, Nat.zero_add, Nat.reduceAdd, Nat.reduceLT, Nat.reduceLeDiff, List.drop, List.take, puL, AV.pu, Bool.and_self, packT, Nat.lt_add_one, Nat.le_refl, Bool.not_true, Bool.not_false, List.set, List.all, AV.one, List.cons_append, List.nil_append, Bool.true_or, Bool.false_or, npL, AV.np, sub, subL, List.length_map, Bool.or_self, Nat.add_zero, Int.toNat_natCast, Int.reduceToNat, List.replicate_zero, Int.toNat_zero]
                (try unfold lim); repeat first | ((with_reducible refine And.intro ?_ ?_); (first | omega | exact ⟨by omega, by omega⟩ | rfl)) | intro _
                refine Fun.plain tj rfl rfl rfl rfl ?_
                simp only [hT, ↓If_lit, Int.cast_ofNat_Int, Int.reduceLT, Int.reduceLE, Int.reduceToNat, Nat.reduceMul, Nat.zero_mul, List.append_eq, bytB, boo, eqK, isC, convK, fitsK, List.length_append, inst, instV, instC, instT, Bool.and_false, Bool.true_and, Bool.false_and, Bool.and_true, Bool.or_true, Bool.or_false, argTm, Option.getD_some, wpcE, SeqE, BlkE, RndE, wopsE, RetE, RetXE, RetRE, resR, stp, bin, binI, numK, dstOf, St.ev, St.put, gtm, geth, seth, setAll, setRow, srcW, bndW, bldW, rowsW, setC, rdR, rdL, remh, Nat.beq, cond_true, cond_false, ofVal, resW, absC, pkR, selH, List.headD, true_and, and_true, List.toArray, AV.cells?, AV.nb, List.map_cons, List.map_nil, List.length_cons, List.length_nil, List.getD_cons_zero, List.getD_cons_succ, Nat.zero_add, Nat.reduceAdd, Nat.reduceLT, Nat.reduceLeDiff, List.drop, List.take, puL, AV.pu, Bool.and_self, packT, Nat.lt_add_one, Nat.le_refl, Bool.not_true, Bool.not_false, List.set, List.all, AV.one, List.cons_append, List.nil_append, Bool.true_or, Bool.false_or, npL, AV.np, sub, subL, List.length_map, Bool.or_self, Nat.add_zero, Int.toNat_natCast, Int.reduceToNat, List.replicate_zero, Int.toNat_zero]
                (try unfold lim); repeat first | ((with_reducible refine And.intro ?_ ?_); (first | omega | exact ⟨by omega, by omega⟩ | rfl)) | intro _
                refine ⟨fun q3 => ?_, fun q3 => ?_⟩
                · have q3 : (rdn (r.getD 1 [])).isSome = false := by simpa using q3
                  rw [codF_none (fun n => allN_not hjl q3 n)]
                  exact none_sub
                · have q3 : (rdn (r.getD 1 [])).isSome = true := by simpa using q3
                  refine ⟨⟨by decide, by decide⟩, ⟨1 + 1, by omega, fun i hi => ?_⟩, by simp only; omega, Le.of [] (Nat.zero_le _) ?_ ?_ ?_⟩
                  · by_cases h : i = 1
                    · subst h; exact q3
                    · exact hall i (by omega)
                  · simp only [leT, Nat.le_refl, List.map_nil, eq_self, and_self,  leH, leO, leR, leN, lkR, ren, renL, nbl, nblL, gtm, geth, remh, sub, subL, Nat.beq, cond_true, cond_false, true_and, and_true, Nat.reduceLT, Nat.lt_add_one, Nat.zero_lt_one, Nat.zero_le, Nat.zero_add]
                  · simp only [strE, leT, Nat.le_refl, List.map_nil, eq_self, and_self,  leH, leO, leR, leN, lkR, ren, renL, nbl, nblL, gtm, geth, remh, sub, subL, Nat.beq, cond_true, cond_false, true_and, and_true, Nat.reduceLT, Nat.lt_add_one, Nat.zero_lt_one, Nat.zero_le, Nat.zero_add]; rfl
                  · simp only [leT, Nat.le_refl, List.map_nil, eq_self, and_self,  leH, leO, leR, leN, lkR, ren, renL, nbl, nblL, gtm, geth, remh, sub, subL, Nat.beq, cond_true, cond_false, true_and, and_true, Nat.reduceLT, Nat.lt_add_one, Nat.zero_lt_one, Nat.zero_le, Nat.zero_add]; simp [pv]
              · simp only [hT, hlt', hgi, strE, ↓If_lit, Int.toNat_natCast, List.append_eq, bytB, boo, eqK, isC, convK, fitsK, List.length_append, inst, instV, instC, instT, Bool.and_false, Bool.true_and, Bool.false_and, Bool.and_true, Bool.or_true, Bool.or_false, argTm, Option.getD_some, wpcE, SeqE, BlkE, RndE, wopsE, RetE, RetXE, RetRE, resR, stp, bin, binI, numK, dstOf, St.ev, St.put, gtm, geth, seth, setAll, setRow, srcW, bndW, bldW, rowsW, setC, rdR, rdL, remh, Nat.beq, cond_true, cond_false, ofVal, resW, absC, pkR, selH, List.headD, true_and, and_true, List.toArray, AV.cells?, AV.nb, List.map_cons, List.map_nil, List.length_cons, List.length_nil, List.getD_cons_zero, List.getD_cons_succ, Nat.zero_add, Nat.reduceAdd, Nat.reduceLT, Nat.reduceLeDiff, List.drop, List.take, puL, AV.pu, Bool.and_self, packT, Nat.lt_add_one, Nat.le_refl, Bool.not_true, Bool.not_false, List.set, List.all, AV.one, List.cons_append, List.nil_append, Bool.true_or, Bool.false_or, npL, AV.np, sub, subL, List.length_map, Bool.or_self, Nat.add_zero, Int.toNat_natCast, Int.reduceToNat, List.replicate_zero, Int.toNat_zero]
                (try unfold lim); repeat first | ((with_reducible refine And.intro ?_ ?_); (first | omega | exact ⟨by omega, by omega⟩ | rfl)) | intro _
                refine Fun.plain tj rfl rfl rfl rfl ?_
                simp only [hT, ↓If_lit, Int.cast_ofNat_Int, Int.reduceLT, Int.reduceLE, Int.reduceToNat, Nat.reduceMul, Nat.zero_mul, List.append_eq, bytB, boo, eqK, isC, convK, fitsK, List.length_append, inst, instV, instC, instT, Bool.and_false, Bool.true_and, Bool.false_and, Bool.and_true, Bool.or_true, Bool.or_false, argTm, Option.getD_some, wpcE, SeqE, BlkE, RndE, wopsE, RetE, RetXE, RetRE, resR, stp, bin, binI, numK, dstOf, St.ev, St.put, gtm, geth, seth, setAll, setRow, srcW, bndW, bldW, rowsW, setC, rdR, rdL, remh, Nat.beq, cond_true, cond_false, ofVal, resW, absC, pkR, selH, List.headD, true_and, and_true, List.toArray, AV.cells?, AV.nb, List.map_cons, List.map_nil, List.length_cons, List.length_nil, List.getD_cons_zero, List.getD_cons_succ, Nat.zero_add, Nat.reduceAdd, Nat.reduceLT, Nat.reduceLeDiff, List.drop, List.take, puL, AV.pu, Bool.and_self, packT, Nat.lt_add_one, Nat.le_refl, Bool.not_true, Bool.not_false, List.set, List.all, AV.one, List.cons_append, List.nil_append, Bool.true_or, Bool.false_or, npL, AV.np, sub, subL, List.length_map, Bool.or_self, Nat.add_zero, Int.toNat_natCast, Int.reduceToNat, List.replicate_zero, Int.toNat_zero]
                (try unfold lim); repeat first | ((with_reducible refine And.intro ?_ ?_); (first | omega | exact ⟨by omega, by omega⟩ | rfl)) | intro _
                refine ⟨fun q3 => ?_, fun q3 => ?_⟩
                · have q3 : (rdn (r.getD 2 [])).isSome = false := by simpa using q3
                  rw [codF_none (fun n => allN_not hjl q3 n)]
                  exact none_sub
                · have q3 : (rdn (r.getD 2 [])).isSome = true := by simpa using q3
                  refine ⟨⟨by decide, by decide⟩, ⟨2 + 1, by omega, fun i hi => ?_⟩, by simp only; omega, Le.of [] (Nat.zero_le _) ?_ ?_ ?_⟩
                  · by_cases h : i = 2
                    · subst h; exact q3
                    · exact hall i (by omega)
                  · simp only [leT, Nat.le_refl, List.map_nil, eq_self, and_self,  leH, leO, leR, leN, lkR, ren, renL, nbl, nblL, gtm, geth, remh, sub, subL, Nat.beq, cond_true, cond_false, true_and, and_true, Nat.reduceLT, Nat.lt_add_one, Nat.zero_lt_one, Nat.zero_le, Nat.zero_add]
                  · simp only [strE, leT, Nat.le_refl, List.map_nil, eq_self, and_self,  leH, leO, leR, leN, lkR, ren, renL, nbl, nblL, gtm, geth, remh, sub, subL, Nat.beq, cond_true, cond_false, true_and, and_true, Nat.reduceLT, Nat.lt_add_one, Nat.zero_lt_one, Nat.zero_le, Nat.zero_add]; rfl
                  · simp only [leT, Nat.le_refl, List.map_nil, eq_self, and_self,  leH, leO, leR, leN, lkR, ren, renL, nbl, nblL, gtm, geth, remh, sub, subL, Nat.beq, cond_true, cond_false, true_and, and_true, Nat.reduceLT, Nat.lt_add_one, Nat.zero_lt_one, Nat.zero_le, Nat.zero_add]; simp [pv]
            · obtain rfl : j = r.length := by omega
              have hlt' : decide ((r.length : Int) < r.length) = false := decide_eq_false (by omega)
              simp only [hT, hlt', strE, ↓If_lit, pv_end x, Int.reduceLT, Int.reduceLE, Int.reduceToNat, Nat.reduceMul, List.append_eq, bytB, boo, eqK, isC, convK, fitsK, List.length_append, inst, instV, instC, instT, Bool.and_false, Bool.true_and, Bool.false_and, Bool.and_true, Bool.or_true, Bool.or_false, argTm, Option.getD_some, wpcE, SeqE, BlkE, RndE, wopsE, RetE, RetXE, RetRE, resR, stp, bin, binI, numK, dstOf, St.ev, St.put, gtm, geth, seth, setAll, setRow, srcW, bndW, bldW, rowsW, setC, rdR, rdL, remh, Nat.beq, cond_true, cond_false, ofVal, resW, absC, pkR, selH, List.headD, true_and, and_true, List.toArray, AV.cells?, AV.nb, List.map_cons, List.map_nil, List.length_cons, List.length_nil, List.getD_cons_zero, List.getD_cons_succ, Nat.zero_add, Nat.reduceAdd, Nat.reduceLT, Nat.reduceLeDiff, List.drop, List.take, puL, AV.pu, Bool.and_self, packT, Nat.lt_add_one, Nat.le_refl, Bool.not_true, Bool.not_false, List.set, List.all, AV.one, List.cons_append, List.nil_append, Bool.true_or, Bool.false_or, npL, AV.np, sub, subL, List.length_map, Bool.or_self, Nat.add_zero, Int.toNat_natCast, Int.reduceToNat, List.replicate_zero, Int.toNat_zero]
              (try unfold lim); repeat first | ((with_reducible refine And.intro ?_ ?_); (first | omega | exact ⟨by omega, by omega⟩ | rfl)) | intro _
              have hall' := allN_of (x := x) hall
              refine Fun.plain (ok (mkI (k + 1) (x :: r))) rfl rfl rfl rfl ?_; simp only [hT, nneg, beq_self_eq_true, decide_true, decide_false, ↓If_lit, Int.cast_ofNat_Int, Int.reduceLT, Int.reduceLE, List.append_eq, bytB, boo, eqK, isC, convK, fitsK, List.length_append, inst, instV, instC, instT, Bool.and_false, Bool.true_and, Bool.false_and, Bool.and_true, Bool.or_true, Bool.or_false, argTm, Option.getD_some, wpcE, SeqE, BlkE, RndE, wopsE, RetE, RetXE, RetRE, resR, stp, bin, binI, numK, dstOf, St.ev, St.put, gtm, geth, seth, setAll, setRow, srcW, bndW, bldW, rowsW, setC, rdR, rdL, remh, Nat.beq, cond_true, cond_false, ofVal, resW, absC, pkR, selH, List.headD, true_and, and_true, List.toArray, AV.cells?, AV.nb, List.map_cons, List.map_nil, List.length_cons, List.length_nil, List.getD_cons_zero, List.getD_cons_succ, Nat.zero_add, Nat.reduceAdd, Nat.reduceLT, Nat.reduceLeDiff, List.drop, List.take, puL, AV.pu, Bool.and_self, packT, Nat.lt_add_one, Nat.le_refl, Bool.not_true, Bool.not_false, List.set, List.all, AV.one, List.cons_append, List.nil_append, Bool.true_or, Bool.false_or, npL, AV.np, sub, subL, List.length_map, Bool.or_self, Nat.add_zero, Int.toNat_natCast, Int.reduceToNat, List.replicate_zero, Int.toNat_zero]; (try unfold lim); repeat first | ((with_reducible refine And.intro ?_ ?_); (first | omega | exact ⟨by omega, by omega⟩ | rfl)) | intro _
              refine ⟨fun q4 => ?_, fun q4 => ?_⟩
              · have ht : trI (k + 1) (x :: r) = some (mkI (k + 1) (x :: r)) := by unfold trI; rw [hmt, hall', q4]; rfl
                rw [← hinv, codF_hit hk14 ht]
                simp only [readT, ordE, mkI, Option.getD_some, Option.isSome_some, List.append_eq, bytB, boo, eqK, isC, convK, fitsK, List.length_append, inst, instV, instC, instT, Bool.and_false, Bool.true_and, Bool.false_and, Bool.and_true, Bool.or_true, Bool.or_false, argTm, Option.getD_some, wpcE, SeqE, BlkE, RndE, wopsE, RetE, RetXE, RetRE, resR, stp, bin, binI, numK, dstOf, St.ev, St.put, gtm, geth, seth, setAll, setRow, srcW, bndW, bldW, rowsW, setC, rdR, rdL, remh, Nat.beq, cond_true, cond_false, ofVal, resW, absC, pkR, selH, List.headD, true_and, and_true, List.toArray, AV.cells?, AV.nb, List.map_cons, List.map_nil, List.length_cons, List.length_nil, List.getD_cons_zero, List.getD_cons_succ, Nat.zero_add, Nat.reduceAdd, Nat.reduceLT, Nat.reduceLeDiff, List.drop, List.take, puL, AV.pu, Bool.and_self, packT, Nat.lt_add_one, Nat.le_refl, Bool.not_true, Bool.not_false, List.set, List.all, AV.one, List.cons_append, List.nil_append, Bool.true_or, Bool.false_or, npL, AV.np, sub, subL, List.length_map, Bool.or_self, Nat.add_zero, Int.toNat_natCast, Int.reduceToNat, List.replicate_zero, Int.toNat_zero]
                rfl
              · have ht : trI (k + 1) (x :: r) = none := by unfold trI; rw [hmt, hall', q4]; rfl
                refine ⟨⟨by omega, by omega⟩, ⟨k + 1, by omega, by rw [← hinv, codF_step hk14 ht]⟩, by simp only; omega, Le.of [] (Nat.zero_le _) ?_ ?_ ?_⟩ <;> simp only [strE, leT, Nat.le_refl, List.map_nil, eq_self, and_self,  leH, leO, leR, leN, lkR, ren, renL, nbl, nblL, gtm, geth, remh, sub, subL, Nat.beq, cond_true, cond_false, true_and, and_true, Nat.reduceLT, Nat.lt_add_one, Nat.zero_lt_one, Nat.zero_le, Nat.zero_add]
                rfl
    · unfold opOk at q
      simp only [Bool.and_eq_false_iff, decide_eq_false_iff_not] at q
      obtain rfl : k = 14 := by omega
      rw [← hinv]
      (try unfold lim); repeat first | ((with_reducible refine And.intro ?_ ?_); (first | omega | exact ⟨by omega, by omega⟩ | rfl)) | intro _
      exact none_sub
end Go.Proofs.YtiaokhgfolbhnaaDoor.C
