/- Labels: their texts, by both texts. -/
import Derived.Test.YtiaokhgfolbhnaaDoorCFrmA
import Derived.Test.YtiaokhgfolbhnaaDoorProg
set_option maxRecDepth 100000
set_option linter.unusedSimpArgs false
set_option linter.unusedVariables false
namespace Go.Proofs.YtiaokhgfolbhnaaDoor.C
open Go Go.Av Go.Proofs
abbrev LB (n m : Int) : AV := .agg [.int .i64 n, .int .i64 m]
def lblOk (n m : Int) : Bool := decide (0 ≤ n) && decide (n ≤ 3) && (decide (0 ≤ m) && decide (m ≤ 15))
theorem lblOk_nat {n m : Int} (h : lblOk n m = true) : ∃ a b : Nat, n = a ∧ m = b ∧ a ≤ 3 ∧ b ≤ 15 := by
  unfold lblOk at h
  simp only [Bool.and_eq_true, decide_eq_true_eq] at h
  exact ⟨n.toNat, m.toNat, by omega, by omega, by omega, by omega⟩
theorem TY_toLblLabel {P : Program} (hP : P = Tryd.prog) : ((zeroT P 40 = some (((.int .i64 0) :: ((.int .i64 0) :: [])))) ∧ ((fldT P 38 0 = some ((0, (false, 1)))) ∧ (tyT P 3 = some ((false, 1))))) ∧ (((fldT P 40 0 = some ((0, (false, 1)))) ∧ (fldT P 38 1 = some ((1, (false, 1))))) ∧ ((fldT P 40 1 = some ((1, (false, 1)))) ∧ (tyT P 40 = some ((true, 2))))) := by subst hP; refine ⟨⟨?_, ⟨?_, ?_⟩⟩, ⟨⟨?_, ?_⟩, ⟨?_, ?_⟩⟩⟩ <;> kernel_rfl
theorem toLblLabel {P : Program} [Known P] (hP : P = Tryd.prog) (n m : Int) : Fun P 28 [LB n m] (LB n m) := by
  refine fun_of (fn := Tryd.f28) (hP ▸ Tryd.func28) (by kernel_rfl) (by kernel_rfl) (by kernel_rfl) (by kernel_rfl) ?_
  have hT := TY_toLblLabel hP
  clear hP
  intro hl
  clear hl
  simp only [Tryd.f28, hT, bytB, boo, eqK, isC, convK, fitsK, List.length_append, inst, instV, instC, instT, Bool.and_false, Bool.true_and, Bool.false_and, Bool.and_true, Bool.or_true, Bool.or_false, argTm, Option.getD_some, wpcE, SeqE, BlkE, RndE, wopsE, RetE, RetXE, RetRE, resR, stp, bin, binI, numK, dstOf, St.ev, St.put, gtm, geth, seth, setAll, setRow, srcW, bndW, bldW, rowsW, setC, rdR, rdL, remh, Nat.beq, cond_true, cond_false, ofVal, resW, absC, pkR, selH, List.headD, true_and, and_true, List.toArray, AV.cells?, AV.nb, List.map_cons, List.map_nil, List.length_cons, List.length_nil, List.getD_cons_zero, List.getD_cons_succ, Nat.zero_add, Nat.reduceAdd, Nat.reduceLT, Nat.reduceLeDiff, List.drop, List.take, puL, AV.pu, Bool.and_self, packT, Nat.lt_add_one, Nat.le_refl, Bool.not_true, Bool.not_false, List.set, List.all, AV.one, List.cons_append, List.nil_append, Bool.true_or, Bool.false_or, npL, AV.np, sub, subL, List.length_map, Bool.or_self, Nat.add_zero, Int.toNat_natCast, Int.reduceToNat, List.replicate_zero, Int.toNat_zero]
theorem TY_lblOkS {P : Program} (hP : P = Tryd.prog) : (fldT P 40 0 = some ((0, (false, 1)))) ∧ ((tyT P 3 = some ((false, 1))) ∧ (fldT P 40 1 = some ((1, (false, 1))))) := by subst hP; refine ⟨?_, ⟨?_, ?_⟩⟩ <;> kernel_rfl
theorem levelOk {P : Program} [Known P] (hP : P = Tryd.prog) (n : Int) : Fun P 85 [.int .i64 n] (.bool (decide (0 ≤ n) && decide (n ≤ 3))) := by
  refine fun_of (fn := Tryd.f85) (hP ▸ Tryd.func85) (by kernel_rfl) (by kernel_rfl) (by kernel_rfl) (by kernel_rfl) ?_
  have hT := TY_lblOkS hP
  clear hP
  intro hl
  clear hl
  simp only [Tryd.f85, hT, bytB, boo, eqK, isC, convK, fitsK, List.length_append, inst, instV, instC, instT, Bool.and_false, Bool.true_and, Bool.false_and, Bool.and_true, Bool.or_true, Bool.or_false, argTm, Option.getD_some, wpcE, SeqE, BlkE, RndE, wopsE, RetE, RetXE, RetRE, resR, stp, bin, binI, numK, dstOf, St.ev, St.put, gtm, geth, seth, setAll, setRow, srcW, bndW, bldW, rowsW, setC, rdR, rdL, remh, Nat.beq, cond_true, cond_false, ofVal, resW, absC, pkR, selH, List.headD, true_and, and_true, List.toArray, AV.cells?, AV.nb, List.map_cons, List.map_nil, List.length_cons, List.length_nil, List.getD_cons_zero, List.getD_cons_succ, Nat.zero_add, Nat.reduceAdd, Nat.reduceLT, Nat.reduceLeDiff, List.drop, List.take, puL, AV.pu, Bool.and_self, packT, Nat.lt_add_one, Nat.le_refl, Bool.not_true, Bool.not_false, List.set, List.all, AV.one, List.cons_append, List.nil_append, Bool.true_or, Bool.false_or, npL, AV.np, sub, subL, List.length_map, Bool.or_self, Nat.add_zero, Int.toNat_natCast, Int.reduceToNat, List.replicate_zero, Int.toNat_zero]
  exact ⟨fun q => by rw [q]; rfl, fun q => by rw [q]; rfl⟩
theorem marksOk {P : Program} [Known P] (hP : P = Tryd.prog) (n : Int) : Fun P 86 [.int .i64 n] (.bool (decide (0 ≤ n) && decide (n ≤ 15))) := by
  refine fun_of (fn := Tryd.f86) (hP ▸ Tryd.func86) (by kernel_rfl) (by kernel_rfl) (by kernel_rfl) (by kernel_rfl) ?_
  have hT := TY_lblOkS hP
  clear hP
  intro hl
  clear hl
  simp only [Tryd.f86, hT, bytB, boo, eqK, isC, convK, fitsK, List.length_append, inst, instV, instC, instT, Bool.and_false, Bool.true_and, Bool.false_and, Bool.and_true, Bool.or_true, Bool.or_false, argTm, Option.getD_some, wpcE, SeqE, BlkE, RndE, wopsE, RetE, RetXE, RetRE, resR, stp, bin, binI, numK, dstOf, St.ev, St.put, gtm, geth, seth, setAll, setRow, srcW, bndW, bldW, rowsW, setC, rdR, rdL, remh, Nat.beq, cond_true, cond_false, ofVal, resW, absC, pkR, selH, List.headD, true_and, and_true, List.toArray, AV.cells?, AV.nb, List.map_cons, List.map_nil, List.length_cons, List.length_nil, List.getD_cons_zero, List.getD_cons_succ, Nat.zero_add, Nat.reduceAdd, Nat.reduceLT, Nat.reduceLeDiff, List.drop, List.take, puL, AV.pu, Bool.and_self, packT, Nat.lt_add_one, Nat.le_refl, Bool.not_true, Bool.not_false, List.set, List.all, AV.one, List.cons_append, List.nil_append, Bool.true_or, Bool.false_or, npL, AV.np, sub, subL, List.length_map, Bool.or_self, Nat.add_zero, Int.toNat_natCast, Int.reduceToNat, List.replicate_zero, Int.toNat_zero]
  exact ⟨fun q => by rw [q]; rfl, fun q => by rw [q]; rfl⟩
theorem lblOkI {P : Program} [Known P] (hP : P = Tryd.prog) (n m : Int) : Fun P 61 [LB n m] (.bool (lblOk n m)) := by
  refine fun_of (fn := Tryd.f61) (hP ▸ Tryd.func61) (by kernel_rfl) (by kernel_rfl) (by kernel_rfl) (by kernel_rfl) ?_
  have hT := TY_lblOkS hP
  have lo := levelOk hP n
  have mo := marksOk hP m
  clear hP
  intro hl
  clear hl
  simp only [Tryd.f61, hT, bytB, boo, eqK, isC, convK, fitsK, List.length_append, inst, instV, instC, instT, Bool.and_false, Bool.true_and, Bool.false_and, Bool.and_true, Bool.or_true, Bool.or_false, argTm, Option.getD_some, wpcE, SeqE, BlkE, RndE, wopsE, RetE, RetXE, RetRE, resR, stp, bin, binI, numK, dstOf, St.ev, St.put, gtm, geth, seth, setAll, setRow, srcW, bndW, bldW, rowsW, setC, rdR, rdL, remh, Nat.beq, cond_true, cond_false, ofVal, resW, absC, pkR, selH, List.headD, true_and, and_true, List.toArray, AV.cells?, AV.nb, List.map_cons, List.map_nil, List.length_cons, List.length_nil, List.getD_cons_zero, List.getD_cons_succ, Nat.zero_add, Nat.reduceAdd, Nat.reduceLT, Nat.reduceLeDiff, List.drop, List.take, puL, AV.pu, Bool.and_self, packT, Nat.lt_add_one, Nat.le_refl, Bool.not_true, Bool.not_false, List.set, List.all, AV.one, List.cons_append, List.nil_append, Bool.true_or, Bool.false_or, npL, AV.np, sub, subL, List.length_map, Bool.or_self, Nat.add_zero, Int.toNat_natCast, Int.reduceToNat, List.replicate_zero, Int.toNat_zero]
  refine Fun.plain (lo) rfl rfl rfl rfl ?_; simp only [hT, nneg, beq_self_eq_true, decide_true, decide_false, If_lit, Int.cast_ofNat_Int, Int.reduceLT, Int.reduceLE, bytB, boo, eqK, isC, convK, fitsK, List.length_append, inst, instV, instC, instT, Bool.and_false, Bool.true_and, Bool.false_and, Bool.and_true, Bool.or_true, Bool.or_false, argTm, Option.getD_some, wpcE, SeqE, BlkE, RndE, wopsE, RetE, RetXE, RetRE, resR, stp, bin, binI, numK, dstOf, St.ev, St.put, gtm, geth, seth, setAll, setRow, srcW, bndW, bldW, rowsW, setC, rdR, rdL, remh, Nat.beq, cond_true, cond_false, ofVal, resW, absC, pkR, selH, List.headD, true_and, and_true, List.toArray, AV.cells?, AV.nb, List.map_cons, List.map_nil, List.length_cons, List.length_nil, List.getD_cons_zero, List.getD_cons_succ, Nat.zero_add, Nat.reduceAdd, Nat.reduceLT, Nat.reduceLeDiff, List.drop, List.take, puL, AV.pu, Bool.and_self, packT, Nat.lt_add_one, Nat.le_refl, Bool.not_true, Bool.not_false, List.set, List.all, AV.one, List.cons_append, List.nil_append, Bool.true_or, Bool.false_or, npL, AV.np, sub, subL, List.length_map, Bool.or_self, Nat.add_zero, Int.toNat_natCast, Int.reduceToNat, List.replicate_zero, Int.toNat_zero]; (try unfold lim); repeat first | ((with_reducible refine And.intro ?_ ?_); (first | omega | exact ⟨by omega, by omega⟩ | rfl)) | intro _
  refine ⟨fun q => ?_, fun q => by unfold lblOk; rw [q]; rfl⟩
  refine Fun.plain (mo) rfl rfl rfl rfl ?_; simp only [hT, nneg, beq_self_eq_true, decide_true, decide_false, If_lit, Int.cast_ofNat_Int, Int.reduceLT, Int.reduceLE, bytB, boo, eqK, isC, convK, fitsK, List.length_append, inst, instV, instC, instT, Bool.and_false, Bool.true_and, Bool.false_and, Bool.and_true, Bool.or_true, Bool.or_false, argTm, Option.getD_some, wpcE, SeqE, BlkE, RndE, wopsE, RetE, RetXE, RetRE, resR, stp, bin, binI, numK, dstOf, St.ev, St.put, gtm, geth, seth, setAll, setRow, srcW, bndW, bldW, rowsW, setC, rdR, rdL, remh, Nat.beq, cond_true, cond_false, ofVal, resW, absC, pkR, selH, List.headD, true_and, and_true, List.toArray, AV.cells?, AV.nb, List.map_cons, List.map_nil, List.length_cons, List.length_nil, List.getD_cons_zero, List.getD_cons_succ, Nat.zero_add, Nat.reduceAdd, Nat.reduceLT, Nat.reduceLeDiff, List.drop, List.take, puL, AV.pu, Bool.and_self, packT, Nat.lt_add_one, Nat.le_refl, Bool.not_true, Bool.not_false, List.set, List.all, AV.one, List.cons_append, List.nil_append, Bool.true_or, Bool.false_or, npL, AV.np, sub, subL, List.length_map, Bool.or_self, Nat.add_zero, Int.toNat_natCast, Int.reduceToNat, List.replicate_zero, Int.toNat_zero]; (try unfold lim); repeat first | ((with_reducible refine And.intro ?_ ?_); (first | omega | exact ⟨by omega, by omega⟩ | rfl)) | intro _
  unfold lblOk
  rw [q]; rfl
theorem lblOkS {P : Program} [Known P] (hP : P = Tryd.prog) (n m : Int) : Fun P 35 [LB n m] (.bool (lblOk n m)) := by
  refine fun_of (fn := Tryd.f35) (hP ▸ Tryd.func35) (by kernel_rfl) (by kernel_rfl) (by kernel_rfl) (by kernel_rfl) ?_
  have hT := TY_lblOkS hP
  have l1 := fun a b c => (l1In hP a b c : _)
  clear hP
  intro hl
  clear hl
  simp only [Tryd.f35, hT, bytB, boo, eqK, isC, convK, fitsK, List.length_append, inst, instV, instC, instT, Bool.and_false, Bool.true_and, Bool.false_and, Bool.and_true, Bool.or_true, Bool.or_false, argTm, Option.getD_some, wpcE, SeqE, BlkE, RndE, wopsE, RetE, RetXE, RetRE, resR, stp, bin, binI, numK, dstOf, St.ev, St.put, gtm, geth, seth, setAll, setRow, srcW, bndW, bldW, rowsW, setC, rdR, rdL, remh, Nat.beq, cond_true, cond_false, ofVal, resW, absC, pkR, selH, List.headD, true_and, and_true, List.toArray, AV.cells?, AV.nb, List.map_cons, List.map_nil, List.length_cons, List.length_nil, List.getD_cons_zero, List.getD_cons_succ, Nat.zero_add, Nat.reduceAdd, Nat.reduceLT, Nat.reduceLeDiff, List.drop, List.take, puL, AV.pu, Bool.and_self, packT, Nat.lt_add_one, Nat.le_refl, Bool.not_true, Bool.not_false, List.set, List.all, AV.one, List.cons_append, List.nil_append, Bool.true_or, Bool.false_or, npL, AV.np, sub, subL, List.length_map, Bool.or_self, Nat.add_zero, Int.toNat_natCast, Int.reduceToNat, List.replicate_zero, Int.toNat_zero]
  refine Fun.plain (l1 n 0 3) rfl rfl rfl rfl ?_; simp only [hT, nneg, beq_self_eq_true, decide_true, decide_false, If_lit, Int.cast_ofNat_Int, Int.reduceLT, Int.reduceLE, bytB, boo, eqK, isC, convK, fitsK, List.length_append, inst, instV, instC, instT, Bool.and_false, Bool.true_and, Bool.false_and, Bool.and_true, Bool.or_true, Bool.or_false, argTm, Option.getD_some, wpcE, SeqE, BlkE, RndE, wopsE, RetE, RetXE, RetRE, resR, stp, bin, binI, numK, dstOf, St.ev, St.put, gtm, geth, seth, setAll, setRow, srcW, bndW, bldW, rowsW, setC, rdR, rdL, remh, Nat.beq, cond_true, cond_false, ofVal, resW, absC, pkR, selH, List.headD, true_and, and_true, List.toArray, AV.cells?, AV.nb, List.map_cons, List.map_nil, List.length_cons, List.length_nil, List.getD_cons_zero, List.getD_cons_succ, Nat.zero_add, Nat.reduceAdd, Nat.reduceLT, Nat.reduceLeDiff, List.drop, List.take, puL, AV.pu, Bool.and_self, packT, Nat.lt_add_one, Nat.le_refl, Bool.not_true, Bool.not_false, List.set, List.all, AV.one, List.cons_append, List.nil_append, Bool.true_or, Bool.false_or, npL, AV.np, sub, subL, List.length_map, Bool.or_self, Nat.add_zero, Int.toNat_natCast, Int.reduceToNat, List.replicate_zero, Int.toNat_zero]; (try unfold lim); repeat first | ((with_reducible refine And.intro ?_ ?_); (first | omega | exact ⟨by omega, by omega⟩ | rfl)) | intro _
  refine ⟨fun q => ?_, fun q => by unfold lblOk; rw [q]; rfl⟩
  refine Fun.plain (l1 m 0 15) rfl rfl rfl rfl ?_; simp only [hT, nneg, beq_self_eq_true, decide_true, decide_false, If_lit, Int.cast_ofNat_Int, Int.reduceLT, Int.reduceLE, bytB, boo, eqK, isC, convK, fitsK, List.length_append, inst, instV, instC, instT, Bool.and_false, Bool.true_and, Bool.false_and, Bool.and_true, Bool.or_true, Bool.or_false, argTm, Option.getD_some, wpcE, SeqE, BlkE, RndE, wopsE, RetE, RetXE, RetRE, resR, stp, bin, binI, numK, dstOf, St.ev, St.put, gtm, geth, seth, setAll, setRow, srcW, bndW, bldW, rowsW, setC, rdR, rdL, remh, Nat.beq, cond_true, cond_false, ofVal, resW, absC, pkR, selH, List.headD, true_and, and_true, List.toArray, AV.cells?, AV.nb, List.map_cons, List.map_nil, List.length_cons, List.length_nil, List.getD_cons_zero, List.getD_cons_succ, Nat.zero_add, Nat.reduceAdd, Nat.reduceLT, Nat.reduceLeDiff, List.drop, List.take, puL, AV.pu, Bool.and_self, packT, Nat.lt_add_one, Nat.le_refl, Bool.not_true, Bool.not_false, List.set, List.all, AV.one, List.cons_append, List.nil_append, Bool.true_or, Bool.false_or, npL, AV.np, sub, subL, List.length_map, Bool.or_self, Nat.add_zero, Int.toNat_natCast, Int.reduceToNat, List.replicate_zero, Int.toNat_zero]; (try unfold lim); repeat first | ((with_reducible refine And.intro ?_ ?_); (first | omega | exact ⟨by omega, by omega⟩ | rfl)) | intro _
  unfold lblOk
  rw [q]; rfl
/-- The text of the first marks. -/
def markT (m : Nat) : Nat → ByteArray
  | 0 => ⟨#[]⟩
  | k + 1 => if m / 2 ^ k % 2 = 1 then markT m k ++ ⟨#[UInt8.ofNat (97 + k)]⟩ else markT m k
theorem markT_size (m : Nat) : ∀ k, (markT m k).size ≤ k
  | 0 => Nat.le_refl _
  | k + 1 => by
    have := markT_size m k
    unfold markT
    split
    · rw [ByteArray.size_append]; show _ + 1 ≤ _; omega
    · omega
theorem cB1 (b : UInt8) : cB [.int .u8 (b.toNat : Int)] = b := by simp [cB]
theorem markT1 {m k : Nat} (h : m / 2 ^ k % 2 = 1) : markT m (k + 1) = markT m k ++ ⟨#[UInt8.ofNat (97 + k)]⟩ := by rw [markT, if_pos h]
theorem markT0 {m k : Nat} (h : ¬m / 2 ^ k % 2 = 1) : markT m (k + 1) = markT m k := by rw [markT, if_neg h]
def digT (n : Nat) : ByteArray := ⟨#[UInt8.ofNat (48 + n)]⟩
/-- A label's text. -/
def lblT (n m : Int) : ByteArray := bif lblOk n m then digT n.toNat ++ markT m.toNat 4 else ⟨#[]⟩
theorem pow2_le (i : Nat) (h : i ≤ 4) : 2 ^ i ≤ 16 ∧ 0 < 2 ^ i := by
  have : i = 0 ∨ i = 1 ∨ i = 2 ∨ i = 3 ∨ i = 4 := by omega
  rcases this with rfl | rfl | rfl | rfl | rfl <;> decide
theorem TY_l1Bit {P : Program} (hP : P = Tryd.prog) : True := trivial
theorem l1Bit {P : Program} [Known P] (hP : P = Tryd.prog) (m k : Nat) (hm : m ≤ 15) (hk : k ≤ 4) : Fun P 60 [.int .i64 m, .int .i64 k] (.int .i64 (m / 2 ^ k % 2 : Nat)) := by
  refine fun_of (fn := Tryd.f60) (hP ▸ Tryd.func60) (by kernel_rfl) (by kernel_rfl) (by kernel_rfl) (by kernel_rfl) ?_
  have hT := TY_l1Bit hP
  clear hP
  intro hl
  clear hl
  simp only [Tryd.f60, hT, bytB, boo, eqK, isC, convK, fitsK, List.length_append, inst, instV, instC, instT, Bool.and_false, Bool.true_and, Bool.false_and, Bool.and_true, Bool.or_true, Bool.or_false, argTm, Option.getD_some, wpcE, SeqE, BlkE, RndE, wopsE, RetE, RetXE, RetRE, resR, stp, bin, binI, numK, dstOf, St.ev, St.put, gtm, geth, seth, setAll, setRow, srcW, bndW, bldW, rowsW, setC, rdR, rdL, remh, Nat.beq, cond_true, cond_false, ofVal, resW, absC, pkR, selH, List.headD, true_and, and_true, List.toArray, AV.cells?, AV.nb, List.map_cons, List.map_nil, List.length_cons, List.length_nil, List.getD_cons_zero, List.getD_cons_succ, Nat.zero_add, Nat.reduceAdd, Nat.reduceLT, Nat.reduceLeDiff, List.drop, List.take, puL, AV.pu, Bool.and_self, packT, Nat.lt_add_one, Nat.le_refl, Bool.not_true, Bool.not_false, List.set, List.all, AV.one, List.cons_append, List.nil_append, Bool.true_or, Bool.false_or, npL, AV.np, sub, subL, List.length_map, Bool.or_self, Nat.add_zero, Int.toNat_natCast, Int.reduceToNat, List.replicate_zero, Int.toNat_zero]
  refine wpc_loop2 {i : Nat // i ≤ k} (fun i => ⟨[(0, .int .i64 (m / 2 ^ i.1 : Nat)), (1, .int .i64 (k - i.1 : Nat))], [], 0⟩) (fun i => k - i.1) ⟨0, Nat.zero_le _⟩ ?_ ?_
  · rintro ⟨i, hi⟩
    have hb : m / 2 ^ i ≤ m := Nat.div_le_self _ _
    have hs : m / 2 ^ (i + 1) = m / 2 ^ i / 2 := by rw [Nat.pow_succ, Nat.div_div_eq_div_mul]
    simp only [hT, bytB, boo, eqK, isC, convK, fitsK, List.length_append, inst, instV, instC, instT, Bool.and_false, Bool.true_and, Bool.false_and, Bool.and_true, Bool.or_true, Bool.or_false, argTm, Option.getD_some, wpcE, SeqE, BlkE, RndE, wopsE, RetE, RetXE, RetRE, resR, stp, bin, binI, numK, dstOf, St.ev, St.put, gtm, geth, seth, setAll, setRow, srcW, bndW, bldW, rowsW, setC, rdR, rdL, remh, Nat.beq, cond_true, cond_false, ofVal, resW, absC, pkR, selH, List.headD, true_and, and_true, List.toArray, AV.cells?, AV.nb, List.map_cons, List.map_nil, List.length_cons, List.length_nil, List.getD_cons_zero, List.getD_cons_succ, Nat.zero_add, Nat.reduceAdd, Nat.reduceLT, Nat.reduceLeDiff, List.drop, List.take, puL, AV.pu, Bool.and_self, packT, Nat.lt_add_one, Nat.le_refl, Bool.not_true, Bool.not_false, List.set, List.all, AV.one, List.cons_append, List.nil_append, Bool.true_or, Bool.false_or, npL, AV.np, sub, subL, List.length_map, Bool.or_self, Nat.add_zero, Int.toNat_natCast, Int.reduceToNat, List.replicate_zero, Int.toNat_zero]
    refine ⟨fun h => ?_, fun h => ?_⟩
    · have h := of_decide_eq_true h
      have e : ((m / 2 ^ i : Nat) : Int).tdiv 2 = ((m / 2 ^ i / 2 : Nat) : Int) := rfl
      rw [e, ← hs]
      have hb2 : m / 2 ^ (i + 1) ≤ m := Nat.div_le_self _ _
      obtain ⟨z, hz⟩ : ∃ z, z = m / 2 ^ (i + 1) := ⟨_, rfl⟩
      rw [← hz] at hb2 ⊢
      (try unfold lim); repeat first | ((with_reducible refine And.intro ?_ ?_); (first | omega | exact ⟨by omega, by omega⟩ | rfl)) | intro _
      refine ⟨⟨i + 1, by omega⟩, by simp only; omega, Le.of [] (Nat.zero_le _) ?_ ?_ ?_⟩ <;> simp only [leT, Nat.le_refl, List.map_nil, eq_self, and_self,  leH, leO, leR, leN, lkR, ren, renL, nbl, nblL, gtm, geth, remh, sub, subL, Nat.beq, cond_true, cond_false, true_and, and_true, Nat.reduceLT, Nat.lt_add_one, Nat.zero_lt_one, Nat.zero_le, Nat.zero_add]
      exact ⟨by rw [hz], by omega⟩
    · have h := of_decide_eq_false h
      obtain rfl : i = k := by omega
      (try unfold lim); repeat first | ((with_reducible refine And.intro ?_ ?_); (first | omega | exact ⟨by omega, by omega⟩ | rfl)) | intro _
      rfl
  · refine Le.of [] (Nat.zero_le _) ?_ ?_ ?_ <;> simp only [leT, Nat.le_refl, List.map_nil, eq_self, and_self,  leH, leO, leR, leN, lkR, ren, renL, nbl, nblL, gtm, geth, remh, sub, subL, Nat.beq, cond_true, cond_false, true_and, and_true, Nat.reduceLT, Nat.lt_add_one, Nat.zero_lt_one, Nat.zero_le, Nat.zero_add]
    simp
theorem TY_lblTextS {P : Program} (hP : P = Tryd.prog) : (((tyT P 40 = some ((true, 2))) ∧ ((fldT P 40 0 = some ((0, (false, 1)))) ∧ (tyT P 3 = some ((false, 1))))) ∧ ((utT P 3 = true) ∧ ((intT P 5 = some (.u8)) ∧ (lkT P 5 = 0)))) ∧ (((byT P 3 = false) ∧ ((mkT P 22 = some ((1, (1, ((.int .u8 0) :: []))))) ∧ (utT P 22 = true))) ∧ (((intT P 9 = none) ∧ (lkT P 9 = 2)) ∧ ((byT P 22 = true) ∧ (fldT P 40 1 = some ((1, (false, 1))))))) := by subst hP; refine ⟨⟨⟨?_, ⟨?_, ?_⟩⟩, ⟨?_, ⟨?_, ?_⟩⟩⟩, ⟨⟨?_, ⟨?_, ?_⟩⟩, ⟨⟨?_, ?_⟩, ⟨?_, ?_⟩⟩⟩⟩ <;> kernel_rfl
theorem lblTextS {P : Program} [Known P] (hP : P = Tryd.prog) (n m : Int) : Fun P 27 [LB n m] (.str (lblT n m)) := by
  refine fun_of (fn := Tryd.f27) (hP ▸ Tryd.func27) (by kernel_rfl) (by kernel_rfl) (by kernel_rfl) (by kernel_rfl) ?_
  have hT := TY_lblTextS hP
  have ok := lblOkS hP n m
  have bit := @l1Bit P _ hP
  clear hP
  intro hl
  clear hl
  simp only [Tryd.f27, hT, bytB, boo, eqK, isC, convK, fitsK, List.length_append, inst, instV, instC, instT, Bool.and_false, Bool.true_and, Bool.false_and, Bool.and_true, Bool.or_true, Bool.or_false, argTm, Option.getD_some, wpcE, SeqE, BlkE, RndE, wopsE, RetE, RetXE, RetRE, resR, stp, bin, binI, numK, dstOf, St.ev, St.put, gtm, geth, seth, setAll, setRow, srcW, bndW, bldW, rowsW, setC, rdR, rdL, remh, Nat.beq, cond_true, cond_false, ofVal, resW, absC, pkR, selH, List.headD, true_and, and_true, List.toArray, AV.cells?, AV.nb, List.map_cons, List.map_nil, List.length_cons, List.length_nil, List.getD_cons_zero, List.getD_cons_succ, Nat.zero_add, Nat.reduceAdd, Nat.reduceLT, Nat.reduceLeDiff, List.drop, List.take, puL, AV.pu, Bool.and_self, packT, Nat.lt_add_one, Nat.le_refl, Bool.not_true, Bool.not_false, List.set, List.all, AV.one, List.cons_append, List.nil_append, Bool.true_or, Bool.false_or, npL, AV.np, sub, subL, List.length_map, Bool.or_self, Nat.add_zero, Int.toNat_natCast, Int.reduceToNat, List.replicate_zero, Int.toNat_zero]
  refine Fun.plain (ok) rfl rfl rfl rfl ?_; simp only [hT, nneg, beq_self_eq_true, decide_true, decide_false, If_lit, Int.cast_ofNat_Int, Int.reduceLT, Int.reduceLE, bytB, boo, eqK, isC, convK, fitsK, List.length_append, inst, instV, instC, instT, Bool.and_false, Bool.true_and, Bool.false_and, Bool.and_true, Bool.or_true, Bool.or_false, argTm, Option.getD_some, wpcE, SeqE, BlkE, RndE, wopsE, RetE, RetXE, RetRE, resR, stp, bin, binI, numK, dstOf, St.ev, St.put, gtm, geth, seth, setAll, setRow, srcW, bndW, bldW, rowsW, setC, rdR, rdL, remh, Nat.beq, cond_true, cond_false, ofVal, resW, absC, pkR, selH, List.headD, true_and, and_true, List.toArray, AV.cells?, AV.nb, List.map_cons, List.map_nil, List.length_cons, List.length_nil, List.getD_cons_zero, List.getD_cons_succ, Nat.zero_add, Nat.reduceAdd, Nat.reduceLT, Nat.reduceLeDiff, List.drop, List.take, puL, AV.pu, Bool.and_self, packT, Nat.lt_add_one, Nat.le_refl, Bool.not_true, Bool.not_false, List.set, List.all, AV.one, List.cons_append, List.nil_append, Bool.true_or, Bool.false_or, npL, AV.np, sub, subL, List.length_map, Bool.or_self, Nat.add_zero, Int.toNat_natCast, Int.reduceToNat, List.replicate_zero, Int.toNat_zero]; (try unfold lim); repeat first | ((with_reducible refine And.intro ?_ ?_); (first | omega | exact ⟨by omega, by omega⟩ | rfl)) | intro _
  unfold lblT
  cases hk : lblOk n m with
  | false => simp only [Bool.not_false, If_lit, cond_false, hT, bytB, boo, eqK, isC, convK, fitsK, List.length_append, inst, instV, instC, instT, Bool.and_false, Bool.true_and, Bool.false_and, Bool.and_true, Bool.or_true, Bool.or_false, argTm, Option.getD_some, wpcE, SeqE, BlkE, RndE, wopsE, RetE, RetXE, RetRE, resR, stp, bin, binI, numK, dstOf, St.ev, St.put, gtm, geth, seth, setAll, setRow, srcW, bndW, bldW, rowsW, setC, rdR, rdL, remh, Nat.beq, cond_true, cond_false, ofVal, resW, absC, pkR, selH, List.headD, true_and, and_true, List.toArray, AV.cells?, AV.nb, List.map_cons, List.map_nil, List.length_cons, List.length_nil, List.getD_cons_zero, List.getD_cons_succ, Nat.zero_add, Nat.reduceAdd, Nat.reduceLT, Nat.reduceLeDiff, List.drop, List.take, puL, AV.pu, Bool.and_self, packT, Nat.lt_add_one, Nat.le_refl, Bool.not_true, Bool.not_false, List.set, List.all, AV.one, List.cons_append, List.nil_append, Bool.true_or, Bool.false_or, npL, AV.np, sub, subL, List.length_map, Bool.or_self, Nat.add_zero, Int.toNat_natCast, Int.reduceToNat, List.replicate_zero, Int.toNat_zero]
  | true =>
    obtain ⟨n, m, rfl, rfl, hn, hm⟩ := lblOk_nat hk
    simp only [Bool.not_true, If_lit, cond_true, Int.toNat_natCast, hT, bytB, boo, eqK, isC, convK, fitsK, List.length_append, inst, instV, instC, instT, Bool.and_false, Bool.true_and, Bool.false_and, Bool.and_true, Bool.or_true, Bool.or_false, argTm, Option.getD_some, wpcE, SeqE, BlkE, RndE, wopsE, RetE, RetXE, RetRE, resR, stp, bin, binI, numK, dstOf, St.ev, St.put, gtm, geth, seth, setAll, setRow, srcW, bndW, bldW, rowsW, setC, rdR, rdL, remh, Nat.beq, cond_true, cond_false, ofVal, resW, absC, pkR, selH, List.headD, true_and, and_true, List.toArray, AV.cells?, AV.nb, List.map_cons, List.map_nil, List.length_cons, List.length_nil, List.getD_cons_zero, List.getD_cons_succ, Nat.zero_add, Nat.reduceAdd, Nat.reduceLT, Nat.reduceLeDiff, List.drop, List.take, puL, AV.pu, Bool.and_self, packT, Nat.lt_add_one, Nat.le_refl, Bool.not_true, Bool.not_false, List.set, List.all, AV.one, List.cons_append, List.nil_append, Bool.true_or, Bool.false_or, npL, AV.np, sub, subL, List.length_map, Bool.or_self, Nat.add_zero, Int.toNat_natCast, Int.reduceToNat, List.replicate_zero, Int.toNat_zero]
    (try unfold lim); repeat first | ((with_reducible refine And.intro ?_ ?_); (first | omega | exact ⟨by omega, by omega⟩ | rfl)) | intro _
    have e48 : IntKind.u8.wrap (48 + (n : Int)) = ((UInt8.ofNat (48 + n)).toNat : Int) := wrap_byte (48 + n)
    simp only [e48, cB1]
    refine wpc_loop2 {i : Nat // i ≤ 4} (fun i => ⟨[(1, .cp 0 0 0), (3, .str (digT n ++ markT m i.1)), (4, .int .i64 i.1)], [(0, ⟨2, [[.int .i64 n, .int .i64 m]], [], true⟩)], 1⟩) (fun i => 4 - i.1) ⟨0, by omega⟩ ?_ ?_
    · rintro ⟨i, hi⟩
      have hsz : (digT n ++ markT m i).size ≤ 5 := by
        have := markT_size m i
        rw [ByteArray.size_append]; show 1 + _ ≤ _; omega
      simp only [hT, bytB, boo, eqK, isC, convK, fitsK, List.length_append, inst, instV, instC, instT, Bool.and_false, Bool.true_and, Bool.false_and, Bool.and_true, Bool.or_true, Bool.or_false, argTm, Option.getD_some, wpcE, SeqE, BlkE, RndE, wopsE, RetE, RetXE, RetRE, resR, stp, bin, binI, numK, dstOf, St.ev, St.put, gtm, geth, seth, setAll, setRow, srcW, bndW, bldW, rowsW, setC, rdR, rdL, remh, Nat.beq, cond_true, cond_false, ofVal, resW, absC, pkR, selH, List.headD, true_and, and_true, List.toArray, AV.cells?, AV.nb, List.map_cons, List.map_nil, List.length_cons, List.length_nil, List.getD_cons_zero, List.getD_cons_succ, Nat.zero_add, Nat.reduceAdd, Nat.reduceLT, Nat.reduceLeDiff, List.drop, List.take, puL, AV.pu, Bool.and_self, packT, Nat.lt_add_one, Nat.le_refl, Bool.not_true, Bool.not_false, List.set, List.all, AV.one, List.cons_append, List.nil_append, Bool.true_or, Bool.false_or, npL, AV.np, sub, subL, List.length_map, Bool.or_self, Nat.add_zero, Int.toNat_natCast, Int.reduceToNat, List.replicate_zero, Int.toNat_zero]
      refine ⟨fun h => ?_, fun h => ?_⟩
      · have h := of_decide_eq_true h
        refine Fun.plain (bit m i hm (by omega)) rfl rfl rfl rfl ?_; simp only [hT, nneg, beq_self_eq_true, decide_true, decide_false, If_lit, Int.cast_ofNat_Int, Int.reduceLT, Int.reduceLE, bytB, boo, eqK, isC, convK, fitsK, List.length_append, inst, instV, instC, instT, Bool.and_false, Bool.true_and, Bool.false_and, Bool.and_true, Bool.or_true, Bool.or_false, argTm, Option.getD_some, wpcE, SeqE, BlkE, RndE, wopsE, RetE, RetXE, RetRE, resR, stp, bin, binI, numK, dstOf, St.ev, St.put, gtm, geth, seth, setAll, setRow, srcW, bndW, bldW, rowsW, setC, rdR, rdL, remh, Nat.beq, cond_true, cond_false, ofVal, resW, absC, pkR, selH, List.headD, true_and, and_true, List.toArray, AV.cells?, AV.nb, List.map_cons, List.map_nil, List.length_cons, List.length_nil, List.getD_cons_zero, List.getD_cons_succ, Nat.zero_add, Nat.reduceAdd, Nat.reduceLT, Nat.reduceLeDiff, List.drop, List.take, puL, AV.pu, Bool.and_self, packT, Nat.lt_add_one, Nat.le_refl, Bool.not_true, Bool.not_false, List.set, List.all, AV.one, List.cons_append, List.nil_append, Bool.true_or, Bool.false_or, npL, AV.np, sub, subL, List.length_map, Bool.or_self, Nat.add_zero, Int.toNat_natCast, Int.reduceToNat, List.replicate_zero, Int.toNat_zero]; (try unfold lim); repeat first | ((with_reducible refine And.intro ?_ ?_); (first | omega | exact ⟨by omega, by omega⟩ | rfl)) | intro _
        refine If.mk (fun q => ?_) (fun q => ?_)
        · have q : m / 2 ^ i % 2 = 1 := by have := of_decide_eq_true q; omega
          have e97 : IntKind.u8.wrap (97 + (i : Int)) = ((UInt8.ofNat (97 + i)).toNat : Int) := wrap_byte (97 + i)
          simp only [e97, cB1]
          (try unfold lim); repeat first | ((with_reducible refine And.intro ?_ ?_); (first | omega | exact ⟨by omega, by omega⟩ | rfl)) | intro _
          have h1 : (⟨#[UInt8.ofNat (97 + i)]⟩ : ByteArray).size = 1 := rfl
          refine ⟨by rw [h1]; omega, ⟨by omega, by omega⟩, ⟨i + 1, by omega⟩, by simp only; omega, Le.of [] (Nat.zero_le _) ?_ ?_ ?_⟩ <;> simp only [markT1 q, leT, Nat.le_refl, List.map_nil, eq_self, and_self,  leH, leO, leR, leN, lkR, ren, renL, nbl, nblL, gtm, geth, remh, sub, subL, Nat.beq, cond_true, cond_false, true_and, and_true, Nat.reduceLT, Nat.lt_add_one, Nat.zero_lt_one, Nat.zero_le, Nat.zero_add]
          exact ⟨by rw [ByteArray.append_assoc], by omega⟩
        · have q : ¬m / 2 ^ i % 2 = 1 := by have := of_decide_eq_false q; omega
          (try unfold lim); repeat first | ((with_reducible refine And.intro ?_ ?_); (first | omega | exact ⟨by omega, by omega⟩ | rfl)) | intro _
          refine ⟨⟨i + 1, by omega⟩, by simp only; omega, Le.of [] (Nat.zero_le _) ?_ ?_ ?_⟩ <;> simp only [markT0 q, leT, Nat.le_refl, List.map_nil, eq_self, and_self,  leH, leO, leR, leN, lkR, ren, renL, nbl, nblL, gtm, geth, remh, sub, subL, Nat.beq, cond_true, cond_false, true_and, and_true, Nat.reduceLT, Nat.lt_add_one, Nat.zero_lt_one, Nat.zero_le, Nat.zero_add]
          omega
      · have h := of_decide_eq_false h
        obtain rfl : i = 4 := by omega
        rfl
    · refine Le.of [] (Nat.zero_le _) ?_ ?_ ?_ <;> simp only [leT, Nat.le_refl, List.map_nil, eq_self, and_self,  leH, leO, leR, leN, lkR, ren, renL, nbl, nblL, gtm, geth, remh, sub, subL, Nat.beq, cond_true, cond_false, true_and, and_true, Nat.reduceLT, Nat.lt_add_one, Nat.zero_lt_one, Nat.zero_le, Nat.zero_add]
      exact ⟨rfl, rfl⟩
theorem TY_itoa {P : Program} (hP : P = Tryd.prog) : (((zeroT P 154 = some (((.int .u8 0) :: ((.int .u8 0) :: ((.int .u8 0) :: ((.int .u8 0) :: ((.int .u8 0) :: ((.int .u8 0) :: ((.int .u8 0) :: ((.int .u8 0) :: ((.int .u8 0) :: ((.int .u8 0) :: ((.int .u8 0) :: ((.int .u8 0) :: ((.int .u8 0) :: ((.int .u8 0) :: ((.int .u8 0) :: ((.int .u8 0) :: ((.int .u8 0) :: ((.int .u8 0) :: ((.int .u8 0) :: ((.int .u8 0) :: ((.int .u8 0) :: ((.int .u8 0) :: ((.int .u8 0) :: ((.int .u8 0) :: [])))))))))))))))))))))))))) ∧ ((utT P 2 = true) ∧ (intT P 155 = some (.u64)))) ∧ ((lkT P 155 = 0) ∧ ((byT P 2 = false) ∧ (lkT P 154 = 0)))) ∧ (((elT P 154 = none) ∧ ((tyT P 5 = some ((false, 1))) ∧ (utT P 22 = true))) ∧ (((intT P 9 = none) ∧ (lkT P 9 = 2)) ∧ ((byT P 22 = true) ∧ (elT P 9 = none)))) := by subst hP; refine ⟨⟨⟨?_, ⟨?_, ?_⟩⟩, ⟨?_, ⟨?_, ?_⟩⟩⟩, ⟨⟨?_, ⟨?_, ?_⟩⟩, ⟨⟨?_, ?_⟩, ⟨?_, ?_⟩⟩⟩⟩ <;> kernel_rfl
theorem small {P : Program} [Known P] (hP : P = Tryd.prog) (n : Nat) (hn : n ≤ 9) : Fun P 108 [.int .i64 n] (.str (digT n)) := by
  refine fun_of (fn := Tryd.f108) (hP ▸ Tryd.func108) (by kernel_rfl) (by kernel_rfl) (by kernel_rfl) (by kernel_rfl) ?_
  have hT := TY_itoa hP
  clear hP
  intro hl
  clear hl
  have e : decide ((n : Int) < 10) = true := decide_eq_true (by omega)
  simp only [Tryd.f108, hT, If_lit, e, bytB, boo, eqK, isC, convK, fitsK, List.length_append, inst, instV, instC, instT, Bool.and_false, Bool.true_and, Bool.false_and, Bool.and_true, Bool.or_true, Bool.or_false, argTm, Option.getD_some, wpcE, SeqE, BlkE, RndE, wopsE, RetE, RetXE, RetRE, resR, stp, bin, binI, numK, dstOf, St.ev, St.put, gtm, geth, seth, setAll, setRow, srcW, bndW, bldW, rowsW, setC, rdR, rdL, remh, Nat.beq, cond_true, cond_false, ofVal, resW, absC, pkR, selH, List.headD, true_and, and_true, List.toArray, AV.cells?, AV.nb, List.map_cons, List.map_nil, List.length_cons, List.length_nil, List.getD_cons_zero, List.getD_cons_succ, Nat.zero_add, Nat.reduceAdd, Nat.reduceLT, Nat.reduceLeDiff, List.drop, List.take, puL, AV.pu, Bool.and_self, packT, Nat.lt_add_one, Nat.le_refl, Bool.not_true, Bool.not_false, List.set, List.all, AV.one, List.cons_append, List.nil_append, Bool.true_or, Bool.false_or, npL, AV.np, sub, subL, List.length_map, Bool.or_self, Nat.add_zero, Int.toNat_natCast, Int.reduceToNat, List.replicate_zero, Int.toNat_zero]
  have : n = 0 ∨ n = 1 ∨ n = 2 ∨ n = 3 ∨ n = 4 ∨ n = 5 ∨ n = 6 ∨ n = 7 ∨ n = 8 ∨ n = 9 := by omega
  rcases this with rfl | rfl | rfl | rfl | rfl | rfl | rfl | rfl | rfl | rfl <;> exact ⟨⟨by decide, by decide⟩, by decide, by decide, by decide, rfl⟩
theorem formatInt {P : Program} [Known P] (hP : P = Tryd.prog) (n : Nat) (hn : n ≤ 9) : Fun P 99 [.int .i64 n, .int .i64 10] (.str (digT n)) := by
  refine fun_of (fn := Tryd.f99) (hP ▸ Tryd.func99) (by kernel_rfl) (by kernel_rfl) (by kernel_rfl) (by kernel_rfl) ?_
  have hT := TY_itoa hP
  have sm := small hP n hn
  clear hP
  intro hl
  clear hl
  have e1 : decide ((0 : Int) ≤ n) = true := decide_eq_true (by omega)
  have e2 : decide ((n : Int) < 100) = true := decide_eq_true (by omega)
  simp only [Tryd.f99, hT, decide_true, If_lit, e1, e2, bytB, boo, eqK, isC, convK, fitsK, List.length_append, inst, instV, instC, instT, Bool.and_false, Bool.true_and, Bool.false_and, Bool.and_true, Bool.or_true, Bool.or_false, argTm, Option.getD_some, wpcE, SeqE, BlkE, RndE, wopsE, RetE, RetXE, RetRE, resR, stp, bin, binI, numK, dstOf, St.ev, St.put, gtm, geth, seth, setAll, setRow, srcW, bndW, bldW, rowsW, setC, rdR, rdL, remh, Nat.beq, cond_true, cond_false, ofVal, resW, absC, pkR, selH, List.headD, true_and, and_true, List.toArray, AV.cells?, AV.nb, List.map_cons, List.map_nil, List.length_cons, List.length_nil, List.getD_cons_zero, List.getD_cons_succ, Nat.zero_add, Nat.reduceAdd, Nat.reduceLT, Nat.reduceLeDiff, List.drop, List.take, puL, AV.pu, Bool.and_self, packT, Nat.lt_add_one, Nat.le_refl, Bool.not_true, Bool.not_false, List.set, List.all, AV.one, List.cons_append, List.nil_append, Bool.true_or, Bool.false_or, npL, AV.np, sub, subL, List.length_map, Bool.or_self, Nat.add_zero, Int.toNat_natCast, Int.reduceToNat, List.replicate_zero, Int.toNat_zero]
  refine Fun.plain (sm) rfl rfl rfl rfl ?_; simp only [hT, nneg, beq_self_eq_true, decide_true, decide_false, If_lit, Int.cast_ofNat_Int, Int.reduceLT, Int.reduceLE, bytB, boo, eqK, isC, convK, fitsK, List.length_append, inst, instV, instC, instT, Bool.and_false, Bool.true_and, Bool.false_and, Bool.and_true, Bool.or_true, Bool.or_false, argTm, Option.getD_some, wpcE, SeqE, BlkE, RndE, wopsE, RetE, RetXE, RetRE, resR, stp, bin, binI, numK, dstOf, St.ev, St.put, gtm, geth, seth, setAll, setRow, srcW, bndW, bldW, rowsW, setC, rdR, rdL, remh, Nat.beq, cond_true, cond_false, ofVal, resW, absC, pkR, selH, List.headD, true_and, and_true, List.toArray, AV.cells?, AV.nb, List.map_cons, List.map_nil, List.length_cons, List.length_nil, List.getD_cons_zero, List.getD_cons_succ, Nat.zero_add, Nat.reduceAdd, Nat.reduceLT, Nat.reduceLeDiff, List.drop, List.take, puL, AV.pu, Bool.and_self, packT, Nat.lt_add_one, Nat.le_refl, Bool.not_true, Bool.not_false, List.set, List.all, AV.one, List.cons_append, List.nil_append, Bool.true_or, Bool.false_or, npL, AV.np, sub, subL, List.length_map, Bool.or_self, Nat.add_zero, Int.toNat_natCast, Int.reduceToNat, List.replicate_zero, Int.toNat_zero]; (try unfold lim); repeat first | ((with_reducible refine And.intro ?_ ?_); (first | omega | exact ⟨by omega, by omega⟩ | rfl)) | intro _
theorem itoa1 {P : Program} [Known P] (hP : P = Tryd.prog) (n : Nat) (hn : n ≤ 9) : Fun P 87 [.int .i64 n] (.str (digT n)) := by
  refine fun_of (fn := Tryd.f87) (hP ▸ Tryd.func87) (by kernel_rfl) (by kernel_rfl) (by kernel_rfl) (by kernel_rfl) ?_
  have hT := TY_itoa hP
  have sm := formatInt hP n hn
  clear hP
  intro hl
  clear hl
  simp only [Tryd.f87, hT, bytB, boo, eqK, isC, convK, fitsK, List.length_append, inst, instV, instC, instT, Bool.and_false, Bool.true_and, Bool.false_and, Bool.and_true, Bool.or_true, Bool.or_false, argTm, Option.getD_some, wpcE, SeqE, BlkE, RndE, wopsE, RetE, RetXE, RetRE, resR, stp, bin, binI, numK, dstOf, St.ev, St.put, gtm, geth, seth, setAll, setRow, srcW, bndW, bldW, rowsW, setC, rdR, rdL, remh, Nat.beq, cond_true, cond_false, ofVal, resW, absC, pkR, selH, List.headD, true_and, and_true, List.toArray, AV.cells?, AV.nb, List.map_cons, List.map_nil, List.length_cons, List.length_nil, List.getD_cons_zero, List.getD_cons_succ, Nat.zero_add, Nat.reduceAdd, Nat.reduceLT, Nat.reduceLeDiff, List.drop, List.take, puL, AV.pu, Bool.and_self, packT, Nat.lt_add_one, Nat.le_refl, Bool.not_true, Bool.not_false, List.set, List.all, AV.one, List.cons_append, List.nil_append, Bool.true_or, Bool.false_or, npL, AV.np, sub, subL, List.length_map, Bool.or_self, Nat.add_zero, Int.toNat_natCast, Int.reduceToNat, List.replicate_zero, Int.toNat_zero]
  refine Fun.plain (sm) rfl rfl rfl rfl ?_; simp only [hT, nneg, beq_self_eq_true, decide_true, decide_false, If_lit, Int.cast_ofNat_Int, Int.reduceLT, Int.reduceLE, bytB, boo, eqK, isC, convK, fitsK, List.length_append, inst, instV, instC, instT, Bool.and_false, Bool.true_and, Bool.false_and, Bool.and_true, Bool.or_true, Bool.or_false, argTm, Option.getD_some, wpcE, SeqE, BlkE, RndE, wopsE, RetE, RetXE, RetRE, resR, stp, bin, binI, numK, dstOf, St.ev, St.put, gtm, geth, seth, setAll, setRow, srcW, bndW, bldW, rowsW, setC, rdR, rdL, remh, Nat.beq, cond_true, cond_false, ofVal, resW, absC, pkR, selH, List.headD, true_and, and_true, List.toArray, AV.cells?, AV.nb, List.map_cons, List.map_nil, List.length_cons, List.length_nil, List.getD_cons_zero, List.getD_cons_succ, Nat.zero_add, Nat.reduceAdd, Nat.reduceLT, Nat.reduceLeDiff, List.drop, List.take, puL, AV.pu, Bool.and_self, packT, Nat.lt_add_one, Nat.le_refl, Bool.not_true, Bool.not_false, List.set, List.all, AV.one, List.cons_append, List.nil_append, Bool.true_or, Bool.false_or, npL, AV.np, sub, subL, List.length_map, Bool.or_self, Nat.add_zero, Int.toNat_natCast, Int.reduceToNat, List.replicate_zero, Int.toNat_zero]; (try unfold lim); repeat first | ((with_reducible refine And.intro ?_ ?_); (first | omega | exact ⟨by omega, by omega⟩ | rfl)) | intro _
theorem itoa {P : Program} [Known P] (hP : P = Tryd.prog) (n : Nat) (hn : n ≤ 9) : Fun P 62 [.int .i64 n] (.str (digT n)) := by
  refine fun_of (fn := Tryd.f62) (hP ▸ Tryd.func62) (by kernel_rfl) (by kernel_rfl) (by kernel_rfl) (by kernel_rfl) ?_
  have hT := TY_itoa hP
  have sm := itoa1 hP n hn
  clear hP
  intro hl
  clear hl
  simp only [Tryd.f62, hT, bytB, boo, eqK, isC, convK, fitsK, List.length_append, inst, instV, instC, instT, Bool.and_false, Bool.true_and, Bool.false_and, Bool.and_true, Bool.or_true, Bool.or_false, argTm, Option.getD_some, wpcE, SeqE, BlkE, RndE, wopsE, RetE, RetXE, RetRE, resR, stp, bin, binI, numK, dstOf, St.ev, St.put, gtm, geth, seth, setAll, setRow, srcW, bndW, bldW, rowsW, setC, rdR, rdL, remh, Nat.beq, cond_true, cond_false, ofVal, resW, absC, pkR, selH, List.headD, true_and, and_true, List.toArray, AV.cells?, AV.nb, List.map_cons, List.map_nil, List.length_cons, List.length_nil, List.getD_cons_zero, List.getD_cons_succ, Nat.zero_add, Nat.reduceAdd, Nat.reduceLT, Nat.reduceLeDiff, List.drop, List.take, puL, AV.pu, Bool.and_self, packT, Nat.lt_add_one, Nat.le_refl, Bool.not_true, Bool.not_false, List.set, List.all, AV.one, List.cons_append, List.nil_append, Bool.true_or, Bool.false_or, npL, AV.np, sub, subL, List.length_map, Bool.or_self, Nat.add_zero, Int.toNat_natCast, Int.reduceToNat, List.replicate_zero, Int.toNat_zero]
  refine Fun.plain (sm) rfl rfl rfl rfl ?_; simp only [hT, nneg, beq_self_eq_true, decide_true, decide_false, If_lit, Int.cast_ofNat_Int, Int.reduceLT, Int.reduceLE, bytB, boo, eqK, isC, convK, fitsK, List.length_append, inst, instV, instC, instT, Bool.and_false, Bool.true_and, Bool.false_and, Bool.and_true, Bool.or_true, Bool.or_false, argTm, Option.getD_some, wpcE, SeqE, BlkE, RndE, wopsE, RetE, RetXE, RetRE, resR, stp, bin, binI, numK, dstOf, St.ev, St.put, gtm, geth, seth, setAll, setRow, srcW, bndW, bldW, rowsW, setC, rdR, rdL, remh, Nat.beq, cond_true, cond_false, ofVal, resW, absC, pkR, selH, List.headD, true_and, and_true, List.toArray, AV.cells?, AV.nb, List.map_cons, List.map_nil, List.length_cons, List.length_nil, List.getD_cons_zero, List.getD_cons_succ, Nat.zero_add, Nat.reduceAdd, Nat.reduceLT, Nat.reduceLeDiff, List.drop, List.take, puL, AV.pu, Bool.and_self, packT, Nat.lt_add_one, Nat.le_refl, Bool.not_true, Bool.not_false, List.set, List.all, AV.one, List.cons_append, List.nil_append, Bool.true_or, Bool.false_or, npL, AV.np, sub, subL, List.length_map, Bool.or_self, Nat.add_zero, Int.toNat_natCast, Int.reduceToNat, List.replicate_zero, Int.toNat_zero]; (try unfold lim); repeat first | ((with_reducible refine And.intro ?_ ?_); (first | omega | exact ⟨by omega, by omega⟩ | rfl)) | intro _
theorem bit_and (m k : Nat) (hm : m ≤ 15) (hk : k ≤ 3) : bitK .and .i64 (shrK .i64 (m : Int) (k : Int)) 1 = ((m / 2 ^ k % 2 : Nat) : Int) := by
  have h1 : shrK .i64 (m : Int) (k : Int) = ((m / 2 ^ k : Nat) : Int) := by
    unfold shrK
    have : k = 0 ∨ k = 1 ∨ k = 2 ∨ k = 3 := by omega
    rcases this with rfl | rfl | rfl | rfl <;> simp [IntKind.bits, Int.fdiv_eq_ediv_of_nonneg]
  rw [h1]
  have hz : m / 2 ^ k ≤ 15 := Nat.le_trans (Nat.div_le_self _ _) hm
  generalize m / 2 ^ k = z at *
  have : z = 0 ∨ z = 1 ∨ z = 2 ∨ z = 3 ∨ z = 4 ∨ z = 5 ∨ z = 6 ∨ z = 7 ∨ z = 8 ∨ z = 9 ∨ z = 10 ∨ z = 11 ∨ z = 12 ∨ z = 13 ∨ z = 14 ∨ z = 15 := by omega
  rcases this with rfl | rfl | rfl | rfl | rfl | rfl | rfl | rfl | rfl | rfl | rfl | rfl | rfl | rfl | rfl | rfl <;> rfl
theorem TY_marksText {P : Program} (hP : P = Tryd.prog) : (((zeroT P 115 = some (((.str ⟨([]).toArray⟩) :: ((.str ⟨([]).toArray⟩) :: ((.str ⟨([]).toArray⟩) :: ((.str ⟨([]).toArray⟩) :: [])))))) ∧ (bldT P 115 = true)) ∧ ((plT P 115 0 = some ((0, 1))) ∧ (plT P 115 1 = some ((1, 1))))) ∧ (((plT P 115 2 = some ((2, 1))) ∧ (plT P 115 3 = some ((3, 1)))) ∧ ((arT P 115 = some ((4, (false, 1)))) ∧ (lkT P 115 = 0))) := by subst hP; refine ⟨⟨⟨?_, ?_⟩, ⟨?_, ?_⟩⟩, ⟨⟨?_, ?_⟩, ⟨?_, ?_⟩⟩⟩ <;> kernel_rfl
theorem marksText {P : Program} [Known P] (hP : P = Tryd.prog) (m : Nat) (hm : m ≤ 15) : Fun P 63 [.int .i64 m] (.str (markT m 4)) := by
  refine fun_of (fn := Tryd.f63) (hP ▸ Tryd.func63) (by kernel_rfl) (by kernel_rfl) (by kernel_rfl) (by kernel_rfl) ?_
  have hT := TY_marksText hP
  clear hP
  intro hl
  clear hl
  simp only [Tryd.f63, hT, bytB, boo, eqK, isC, convK, fitsK, List.length_append, inst, instV, instC, instT, Bool.and_false, Bool.true_and, Bool.false_and, Bool.and_true, Bool.or_true, Bool.or_false, argTm, Option.getD_some, wpcE, SeqE, BlkE, RndE, wopsE, RetE, RetXE, RetRE, resR, stp, bin, binI, numK, dstOf, St.ev, St.put, gtm, geth, seth, setAll, setRow, srcW, bndW, bldW, rowsW, setC, rdR, rdL, remh, Nat.beq, cond_true, cond_false, ofVal, resW, absC, pkR, selH, List.headD, true_and, and_true, List.toArray, AV.cells?, AV.nb, List.map_cons, List.map_nil, List.length_cons, List.length_nil, List.getD_cons_zero, List.getD_cons_succ, Nat.zero_add, Nat.reduceAdd, Nat.reduceLT, Nat.reduceLeDiff, List.drop, List.take, puL, AV.pu, Bool.and_self, packT, Nat.lt_add_one, Nat.le_refl, Bool.not_true, Bool.not_false, List.set, List.all, AV.one, List.cons_append, List.nil_append, Bool.true_or, Bool.false_or, npL, AV.np, sub, subL, List.length_map, Bool.or_self, Nat.add_zero, Int.toNat_natCast, Int.reduceToNat, List.replicate_zero, Int.toNat_zero]
  (try unfold lim); repeat first | ((with_reducible refine And.intro ?_ ?_); (first | omega | exact ⟨by omega, by omega⟩ | rfl)) | intro _
  refine wpc_loop2 {i : Nat // i ≤ 4} (fun i => ⟨[(0, .int .i64 m), (3, .str (markT m i.1)), (6, .agg [.str ⟨#[97]⟩, .str ⟨#[98]⟩, .str ⟨#[99]⟩, .str ⟨#[100]⟩]), (7, .int .i64 i.1)], [], 0⟩) (fun i => 4 - i.1) ⟨0, by omega⟩ ?_ ?_
  · rintro ⟨i, hi⟩
    have hsz := markT_size m i
    have hi5 : i = 0 ∨ i = 1 ∨ i = 2 ∨ i = 3 ∨ i = 4 := by omega
    rcases hi5 with rfl | rfl | rfl | rfl | rfl
    · have hb := bit_and m 0 hm (by omega)
      simp only [Int.cast_ofNat_Int] at hb
      simp only [hT, hb, Int.cast_ofNat_Int, Int.natCast_zero, Int.reduceLT, Int.reduceLE, Int.reduceAdd, Int.reduceToNat, decide_true, If_lit, bytB, boo, eqK, isC, convK, fitsK, List.length_append, inst, instV, instC, instT, Bool.and_false, Bool.true_and, Bool.false_and, Bool.and_true, Bool.or_true, Bool.or_false, argTm, Option.getD_some, wpcE, SeqE, BlkE, RndE, wopsE, RetE, RetXE, RetRE, resR, stp, bin, binI, numK, dstOf, St.ev, St.put, gtm, geth, seth, setAll, setRow, srcW, bndW, bldW, rowsW, setC, rdR, rdL, remh, Nat.beq, cond_true, cond_false, ofVal, resW, absC, pkR, selH, List.headD, true_and, and_true, List.toArray, AV.cells?, AV.nb, List.map_cons, List.map_nil, List.length_cons, List.length_nil, List.getD_cons_zero, List.getD_cons_succ, Nat.zero_add, Nat.reduceAdd, Nat.reduceLT, Nat.reduceLeDiff, List.drop, List.take, puL, AV.pu, Bool.and_self, packT, Nat.lt_add_one, Nat.le_refl, Bool.not_true, Bool.not_false, List.set, List.all, AV.one, List.cons_append, List.nil_append, Bool.true_or, Bool.false_or, npL, AV.np, sub, subL, List.length_map, Bool.or_self, Nat.add_zero, Int.toNat_natCast, Int.reduceToNat, List.replicate_zero, Int.toNat_zero]
      (try unfold lim); repeat first | ((with_reducible refine And.intro ?_ ?_); (first | omega | exact ⟨by omega, by omega⟩ | rfl)) | intro _
      refine If.mk (fun q => ?_) (fun q => ?_)
      · have q : m / 2 ^ 0 % 2 = 1 := by have := of_decide_eq_true q; omega
        refine ⟨Nat.le_trans (Nat.add_le_add_right hsz 1) (by decide), ⟨by omega, by omega⟩, ⟨1, by omega⟩, by simp only; omega, Le.of [] (Nat.zero_le _) ?_ ?_ ?_⟩ <;> simp only [markT1 q, Int.cast_ofNat_Int, leT, Nat.le_refl, List.map_nil, eq_self, and_self,  leH, leO, leR, leN, lkR, ren, renL, nbl, nblL, gtm, geth, remh, sub, subL, Nat.beq, cond_true, cond_false, true_and, and_true, Nat.reduceLT, Nat.lt_add_one, Nat.zero_lt_one, Nat.zero_le, Nat.zero_add]
        all_goals rfl
      · have q : ¬m / 2 ^ 0 % 2 = 1 := by have := of_decide_eq_false q; omega
        refine ⟨⟨by omega, by omega⟩, ⟨1, by omega⟩, by simp only; omega, Le.of [] (Nat.zero_le _) ?_ ?_ ?_⟩ <;> simp only [markT0 q, Int.cast_ofNat_Int, leT, Nat.le_refl, List.map_nil, eq_self, and_self,  leH, leO, leR, leN, lkR, ren, renL, nbl, nblL, gtm, geth, remh, sub, subL, Nat.beq, cond_true, cond_false, true_and, and_true, Nat.reduceLT, Nat.lt_add_one, Nat.zero_lt_one, Nat.zero_le, Nat.zero_add]
    · have hb := bit_and m 1 hm (by omega)
      simp only [Int.cast_ofNat_Int] at hb
      simp only [hT, hb, Int.cast_ofNat_Int, Int.natCast_zero, Int.reduceLT, Int.reduceLE, Int.reduceAdd, Int.reduceToNat, decide_true, If_lit, bytB, boo, eqK, isC, convK, fitsK, List.length_append, inst, instV, instC, instT, Bool.and_false, Bool.true_and, Bool.false_and, Bool.and_true, Bool.or_true, Bool.or_false, argTm, Option.getD_some, wpcE, SeqE, BlkE, RndE, wopsE, RetE, RetXE, RetRE, resR, stp, bin, binI, numK, dstOf, St.ev, St.put, gtm, geth, seth, setAll, setRow, srcW, bndW, bldW, rowsW, setC, rdR, rdL, remh, Nat.beq, cond_true, cond_false, ofVal, resW, absC, pkR, selH, List.headD, true_and, and_true, List.toArray, AV.cells?, AV.nb, List.map_cons, List.map_nil, List.length_cons, List.length_nil, List.getD_cons_zero, List.getD_cons_succ, Nat.zero_add, Nat.reduceAdd, Nat.reduceLT, Nat.reduceLeDiff, List.drop, List.take, puL, AV.pu, Bool.and_self, packT, Nat.lt_add_one, Nat.le_refl, Bool.not_true, Bool.not_false, List.set, List.all, AV.one, List.cons_append, List.nil_append, Bool.true_or, Bool.false_or, npL, AV.np, sub, subL, List.length_map, Bool.or_self, Nat.add_zero, Int.toNat_natCast, Int.reduceToNat, List.replicate_zero, Int.toNat_zero]
      (try unfold lim); repeat first | ((with_reducible refine And.intro ?_ ?_); (first | omega | exact ⟨by omega, by omega⟩ | rfl)) | intro _
      refine If.mk (fun q => ?_) (fun q => ?_)
      · have q : m / 2 ^ 1 % 2 = 1 := by have := of_decide_eq_true q; omega
        refine ⟨Nat.le_trans (Nat.add_le_add_right hsz 1) (by decide), ⟨by omega, by omega⟩, ⟨2, by omega⟩, by simp only; omega, Le.of [] (Nat.zero_le _) ?_ ?_ ?_⟩ <;> simp only [markT1 q, Int.cast_ofNat_Int, leT, Nat.le_refl, List.map_nil, eq_self, and_self,  leH, leO, leR, leN, lkR, ren, renL, nbl, nblL, gtm, geth, remh, sub, subL, Nat.beq, cond_true, cond_false, true_and, and_true, Nat.reduceLT, Nat.lt_add_one, Nat.zero_lt_one, Nat.zero_le, Nat.zero_add]
        all_goals rfl
      · have q : ¬m / 2 ^ 1 % 2 = 1 := by have := of_decide_eq_false q; omega
        refine ⟨⟨by omega, by omega⟩, ⟨2, by omega⟩, by simp only; omega, Le.of [] (Nat.zero_le _) ?_ ?_ ?_⟩ <;> simp only [markT0 q, Int.cast_ofNat_Int, leT, Nat.le_refl, List.map_nil, eq_self, and_self,  leH, leO, leR, leN, lkR, ren, renL, nbl, nblL, gtm, geth, remh, sub, subL, Nat.beq, cond_true, cond_false, true_and, and_true, Nat.reduceLT, Nat.lt_add_one, Nat.zero_lt_one, Nat.zero_le, Nat.zero_add]
    · have hb := bit_and m 2 hm (by omega)
      simp only [Int.cast_ofNat_Int] at hb
      simp only [hT, hb, Int.cast_ofNat_Int, Int.natCast_zero, Int.reduceLT, Int.reduceLE, Int.reduceAdd, Int.reduceToNat, decide_true, If_lit, bytB, boo, eqK, isC, convK, fitsK, List.length_append, inst, instV, instC, instT, Bool.and_false, Bool.true_and, Bool.false_and, Bool.and_true, Bool.or_true, Bool.or_false, argTm, Option.getD_some, wpcE, SeqE, BlkE, RndE, wopsE, RetE, RetXE, RetRE, resR, stp, bin, binI, numK, dstOf, St.ev, St.put, gtm, geth, seth, setAll, setRow, srcW, bndW, bldW, rowsW, setC, rdR, rdL, remh, Nat.beq, cond_true, cond_false, ofVal, resW, absC, pkR, selH, List.headD, true_and, and_true, List.toArray, AV.cells?, AV.nb, List.map_cons, List.map_nil, List.length_cons, List.length_nil, List.getD_cons_zero, List.getD_cons_succ, Nat.zero_add, Nat.reduceAdd, Nat.reduceLT, Nat.reduceLeDiff, List.drop, List.take, puL, AV.pu, Bool.and_self, packT, Nat.lt_add_one, Nat.le_refl, Bool.not_true, Bool.not_false, List.set, List.all, AV.one, List.cons_append, List.nil_append, Bool.true_or, Bool.false_or, npL, AV.np, sub, subL, List.length_map, Bool.or_self, Nat.add_zero, Int.toNat_natCast, Int.reduceToNat, List.replicate_zero, Int.toNat_zero]
      (try unfold lim); repeat first | ((with_reducible refine And.intro ?_ ?_); (first | omega | exact ⟨by omega, by omega⟩ | rfl)) | intro _
      refine If.mk (fun q => ?_) (fun q => ?_)
      · have q : m / 2 ^ 2 % 2 = 1 := by have := of_decide_eq_true q; omega
        refine ⟨Nat.le_trans (Nat.add_le_add_right hsz 1) (by decide), ⟨by omega, by omega⟩, ⟨3, by omega⟩, by simp only; omega, Le.of [] (Nat.zero_le _) ?_ ?_ ?_⟩ <;> simp only [markT1 q, Int.cast_ofNat_Int, leT, Nat.le_refl, List.map_nil, eq_self, and_self,  leH, leO, leR, leN, lkR, ren, renL, nbl, nblL, gtm, geth, remh, sub, subL, Nat.beq, cond_true, cond_false, true_and, and_true, Nat.reduceLT, Nat.lt_add_one, Nat.zero_lt_one, Nat.zero_le, Nat.zero_add]
        all_goals rfl
      · have q : ¬m / 2 ^ 2 % 2 = 1 := by have := of_decide_eq_false q; omega
        refine ⟨⟨by omega, by omega⟩, ⟨3, by omega⟩, by simp only; omega, Le.of [] (Nat.zero_le _) ?_ ?_ ?_⟩ <;> simp only [markT0 q, Int.cast_ofNat_Int, leT, Nat.le_refl, List.map_nil, eq_self, and_self,  leH, leO, leR, leN, lkR, ren, renL, nbl, nblL, gtm, geth, remh, sub, subL, Nat.beq, cond_true, cond_false, true_and, and_true, Nat.reduceLT, Nat.lt_add_one, Nat.zero_lt_one, Nat.zero_le, Nat.zero_add]
    · have hb := bit_and m 3 hm (by omega)
      simp only [Int.cast_ofNat_Int] at hb
      simp only [hT, hb, Int.cast_ofNat_Int, Int.natCast_zero, Int.reduceLT, Int.reduceLE, Int.reduceAdd, Int.reduceToNat, decide_true, If_lit, bytB, boo, eqK, isC, convK, fitsK, List.length_append, inst, instV, instC, instT, Bool.and_false, Bool.true_and, Bool.false_and, Bool.and_true, Bool.or_true, Bool.or_false, argTm, Option.getD_some, wpcE, SeqE, BlkE, RndE, wopsE, RetE, RetXE, RetRE, resR, stp, bin, binI, numK, dstOf, St.ev, St.put, gtm, geth, seth, setAll, setRow, srcW, bndW, bldW, rowsW, setC, rdR, rdL, remh, Nat.beq, cond_true, cond_false, ofVal, resW, absC, pkR, selH, List.headD, true_and, and_true, List.toArray, AV.cells?, AV.nb, List.map_cons, List.map_nil, List.length_cons, List.length_nil, List.getD_cons_zero, List.getD_cons_succ, Nat.zero_add, Nat.reduceAdd, Nat.reduceLT, Nat.reduceLeDiff, List.drop, List.take, puL, AV.pu, Bool.and_self, packT, Nat.lt_add_one, Nat.le_refl, Bool.not_true, Bool.not_false, List.set, List.all, AV.one, List.cons_append, List.nil_append, Bool.true_or, Bool.false_or, npL, AV.np, sub, subL, List.length_map, Bool.or_self, Nat.add_zero, Int.toNat_natCast, Int.reduceToNat, List.replicate_zero, Int.toNat_zero]
      (try unfold lim); repeat first | ((with_reducible refine And.intro ?_ ?_); (first | omega | exact ⟨by omega, by omega⟩ | rfl)) | intro _
      refine If.mk (fun q => ?_) (fun q => ?_)
      · have q : m / 2 ^ 3 % 2 = 1 := by have := of_decide_eq_true q; omega
        refine ⟨Nat.le_trans (Nat.add_le_add_right hsz 1) (by decide), ⟨by omega, by omega⟩, ⟨4, by omega⟩, by simp only; omega, Le.of [] (Nat.zero_le _) ?_ ?_ ?_⟩ <;> simp only [markT1 q, Int.cast_ofNat_Int, leT, Nat.le_refl, List.map_nil, eq_self, and_self,  leH, leO, leR, leN, lkR, ren, renL, nbl, nblL, gtm, geth, remh, sub, subL, Nat.beq, cond_true, cond_false, true_and, and_true, Nat.reduceLT, Nat.lt_add_one, Nat.zero_lt_one, Nat.zero_le, Nat.zero_add]
        all_goals rfl
      · have q : ¬m / 2 ^ 3 % 2 = 1 := by have := of_decide_eq_false q; omega
        refine ⟨⟨by omega, by omega⟩, ⟨4, by omega⟩, by simp only; omega, Le.of [] (Nat.zero_le _) ?_ ?_ ?_⟩ <;> simp only [markT0 q, Int.cast_ofNat_Int, leT, Nat.le_refl, List.map_nil, eq_self, and_self,  leH, leO, leR, leN, lkR, ren, renL, nbl, nblL, gtm, geth, remh, sub, subL, Nat.beq, cond_true, cond_false, true_and, and_true, Nat.reduceLT, Nat.lt_add_one, Nat.zero_lt_one, Nat.zero_le, Nat.zero_add]
    · simp only [hT, Int.cast_ofNat_Int, Int.reduceLT, decide_false, If_lit, bytB, boo, eqK, isC, convK, fitsK, List.length_append, inst, instV, instC, instT, Bool.and_false, Bool.true_and, Bool.false_and, Bool.and_true, Bool.or_true, Bool.or_false, argTm, Option.getD_some, wpcE, SeqE, BlkE, RndE, wopsE, RetE, RetXE, RetRE, resR, stp, bin, binI, numK, dstOf, St.ev, St.put, gtm, geth, seth, setAll, setRow, srcW, bndW, bldW, rowsW, setC, rdR, rdL, remh, Nat.beq, cond_true, cond_false, ofVal, resW, absC, pkR, selH, List.headD, true_and, and_true, List.toArray, AV.cells?, AV.nb, List.map_cons, List.map_nil, List.length_cons, List.length_nil, List.getD_cons_zero, List.getD_cons_succ, Nat.zero_add, Nat.reduceAdd, Nat.reduceLT, Nat.reduceLeDiff, List.drop, List.take, puL, AV.pu, Bool.and_self, packT, Nat.lt_add_one, Nat.le_refl, Bool.not_true, Bool.not_false, List.set, List.all, AV.one, List.cons_append, List.nil_append, Bool.true_or, Bool.false_or, npL, AV.np, sub, subL, List.length_map, Bool.or_self, Nat.add_zero, Int.toNat_natCast, Int.reduceToNat, List.replicate_zero, Int.toNat_zero]
  · refine Le.of [] (Nat.zero_le _) ?_ ?_ ?_ <;> simp only [leT, Nat.le_refl, List.map_nil, eq_self, and_self,  leH, leO, leR, leN, lkR, ren, renL, nbl, nblL, gtm, geth, remh, sub, subL, Nat.beq, cond_true, cond_false, true_and, and_true, Nat.reduceLT, Nat.lt_add_one, Nat.zero_lt_one, Nat.zero_le, Nat.zero_add]
    all_goals first | rfl | exact ⟨rfl, rfl⟩
theorem TY_lblTextI {P : Program} (hP : P = Tryd.prog) : ((P.follows .mixedOrders = true) ∧ (tyT P 40 = some ((true, 2)))) ∧ ((fldT P 40 0 = some ((0, (false, 1)))) ∧ ((tyT P 3 = some ((false, 1))) ∧ (fldT P 40 1 = some ((1, (false, 1)))))) := by subst hP; refine ⟨⟨?_, ?_⟩, ⟨?_, ⟨?_, ?_⟩⟩⟩ <;> kernel_rfl
theorem lblTextI {P : Program} [Known P] (hP : P = Tryd.prog) (n m : Int) : Fun P 29 [LB n m] (.str (lblT n m)) := by
  refine fun_of (fn := Tryd.f29) (hP ▸ Tryd.func29) (by kernel_rfl) (by kernel_rfl) (by kernel_rfl) (by kernel_rfl) ?_
  have hT := TY_lblTextI hP
  have hm : P.follows .mixedOrders = true := by subst hP; kernel_rfl
  have ok := lblOkI hP n m
  have it := @itoa P _ hP
  have mt := @marksText P _ hP
  clear hP
  intro hl
  clear hl
  simp only [Tryd.f29, hT, bytB, boo, eqK, isC, convK, fitsK, List.length_append, inst, instV, instC, instT, Bool.and_false, Bool.true_and, Bool.false_and, Bool.and_true, Bool.or_true, Bool.or_false, argTm, Option.getD_some, wpcE, SeqE, BlkE, RndE, wopsE, RetE, RetXE, RetRE, resR, stp, bin, binI, numK, dstOf, St.ev, St.put, gtm, geth, seth, setAll, setRow, srcW, bndW, bldW, rowsW, setC, rdR, rdL, remh, Nat.beq, cond_true, cond_false, ofVal, resW, absC, pkR, selH, List.headD, true_and, and_true, List.toArray, AV.cells?, AV.nb, List.map_cons, List.map_nil, List.length_cons, List.length_nil, List.getD_cons_zero, List.getD_cons_succ, Nat.zero_add, Nat.reduceAdd, Nat.reduceLT, Nat.reduceLeDiff, List.drop, List.take, puL, AV.pu, Bool.and_self, packT, Nat.lt_add_one, Nat.le_refl, Bool.not_true, Bool.not_false, List.set, List.all, AV.one, List.cons_append, List.nil_append, Bool.true_or, Bool.false_or, npL, AV.np, sub, subL, List.length_map, Bool.or_self, Nat.add_zero, Int.toNat_natCast, Int.reduceToNat, List.replicate_zero, Int.toNat_zero]
  refine Fun.plain (ok) rfl rfl rfl rfl ?_; simp only [hT, nneg, beq_self_eq_true, decide_true, decide_false, If_lit, Int.cast_ofNat_Int, Int.reduceLT, Int.reduceLE, bytB, boo, eqK, isC, convK, fitsK, List.length_append, inst, instV, instC, instT, Bool.and_false, Bool.true_and, Bool.false_and, Bool.and_true, Bool.or_true, Bool.or_false, argTm, Option.getD_some, wpcE, SeqE, BlkE, RndE, wopsE, RetE, RetXE, RetRE, resR, stp, bin, binI, numK, dstOf, St.ev, St.put, gtm, geth, seth, setAll, setRow, srcW, bndW, bldW, rowsW, setC, rdR, rdL, remh, Nat.beq, cond_true, cond_false, ofVal, resW, absC, pkR, selH, List.headD, true_and, and_true, List.toArray, AV.cells?, AV.nb, List.map_cons, List.map_nil, List.length_cons, List.length_nil, List.getD_cons_zero, List.getD_cons_succ, Nat.zero_add, Nat.reduceAdd, Nat.reduceLT, Nat.reduceLeDiff, List.drop, List.take, puL, AV.pu, Bool.and_self, packT, Nat.lt_add_one, Nat.le_refl, Bool.not_true, Bool.not_false, List.set, List.all, AV.one, List.cons_append, List.nil_append, Bool.true_or, Bool.false_or, npL, AV.np, sub, subL, List.length_map, Bool.or_self, Nat.add_zero, Int.toNat_natCast, Int.reduceToNat, List.replicate_zero, Int.toNat_zero]; (try unfold lim); repeat first | ((with_reducible refine And.intro ?_ ?_); (first | omega | exact ⟨by omega, by omega⟩ | rfl)) | intro _
  unfold lblT
  cases hk : lblOk n m with
  | false => simp only [Bool.not_false, If_lit, cond_false, hT, bytB, boo, eqK, isC, convK, fitsK, List.length_append, inst, instV, instC, instT, Bool.and_false, Bool.true_and, Bool.false_and, Bool.and_true, Bool.or_true, Bool.or_false, argTm, Option.getD_some, wpcE, SeqE, BlkE, RndE, wopsE, RetE, RetXE, RetRE, resR, stp, bin, binI, numK, dstOf, St.ev, St.put, gtm, geth, seth, setAll, setRow, srcW, bndW, bldW, rowsW, setC, rdR, rdL, remh, Nat.beq, cond_true, cond_false, ofVal, resW, absC, pkR, selH, List.headD, true_and, and_true, List.toArray, AV.cells?, AV.nb, List.map_cons, List.map_nil, List.length_cons, List.length_nil, List.getD_cons_zero, List.getD_cons_succ, Nat.zero_add, Nat.reduceAdd, Nat.reduceLT, Nat.reduceLeDiff, List.drop, List.take, puL, AV.pu, Bool.and_self, packT, Nat.lt_add_one, Nat.le_refl, Bool.not_true, Bool.not_false, List.set, List.all, AV.one, List.cons_append, List.nil_append, Bool.true_or, Bool.false_or, npL, AV.np, sub, subL, List.length_map, Bool.or_self, Nat.add_zero, Int.toNat_natCast, Int.reduceToNat, List.replicate_zero, Int.toNat_zero]
  | true =>
    obtain ⟨n, m, rfl, rfl, hn, hm2⟩ := lblOk_nat hk
    have it := it n (by omega)
    have mt := mt m hm2
    have hsz := markT_size m 4
    simp only [Bool.not_true, If_lit, cond_true, Int.toNat_natCast, hT, bytB, boo, eqK, isC, convK, fitsK, List.length_append, inst, instV, instC, instT, Bool.and_false, Bool.true_and, Bool.false_and, Bool.and_true, Bool.or_true, Bool.or_false, argTm, Option.getD_some, wpcE, SeqE, BlkE, RndE, wopsE, RetE, RetXE, RetRE, resR, stp, bin, binI, numK, dstOf, St.ev, St.put, gtm, geth, seth, setAll, setRow, srcW, bndW, bldW, rowsW, setC, rdR, rdL, remh, Nat.beq, cond_true, cond_false, ofVal, resW, absC, pkR, selH, List.headD, true_and, and_true, List.toArray, AV.cells?, AV.nb, List.map_cons, List.map_nil, List.length_cons, List.length_nil, List.getD_cons_zero, List.getD_cons_succ, Nat.zero_add, Nat.reduceAdd, Nat.reduceLT, Nat.reduceLeDiff, List.drop, List.take, puL, AV.pu, Bool.and_self, packT, Nat.lt_add_one, Nat.le_refl, Bool.not_true, Bool.not_false, List.set, List.all, AV.one, List.cons_append, List.nil_append, Bool.true_or, Bool.false_or, npL, AV.np, sub, subL, List.length_map, Bool.or_self, Nat.add_zero, Int.toNat_natCast, Int.reduceToNat, List.replicate_zero, Int.toNat_zero]
    refine wpc_read [0, 1, 2, 3, 4, 5, 6, 7] hm (by kernel_rfl) ?_
    simp only [hT, wtrE, wthE, hstE, pstE, Pk, eq_self, gOp, ↓If_lit, PCall, lenP, List.getElem?_cons_zero, List.getElem?_cons_succ, Nat.reduceSub, reduceCtorEq, bytB, boo, eqK, isC, convK, fitsK, List.length_append, inst, instV, instC, instT, Bool.and_false, Bool.true_and, Bool.false_and, Bool.and_true, Bool.or_true, Bool.or_false, argTm, Option.getD_some, wpcE, SeqE, BlkE, RndE, wopsE, RetE, RetXE, RetRE, resR, stp, bin, binI, numK, dstOf, St.ev, St.put, gtm, geth, seth, setAll, setRow, srcW, bndW, bldW, rowsW, setC, rdR, rdL, remh, Nat.beq, cond_true, cond_false, ofVal, resW, absC, pkR, selH, List.headD, true_and, and_true, List.toArray, AV.cells?, AV.nb, List.map_cons, List.map_nil, List.length_cons, List.length_nil, List.getD_cons_zero, List.getD_cons_succ, Nat.zero_add, Nat.reduceAdd, Nat.reduceLT, Nat.reduceLeDiff, List.drop, List.take, puL, AV.pu, Bool.and_self, packT, Nat.lt_add_one, Nat.le_refl, Bool.not_true, Bool.not_false, List.set, List.all, AV.one, List.cons_append, List.nil_append, Bool.true_or, Bool.false_or, npL, AV.np, sub, subL, List.length_map, Bool.or_self, Nat.add_zero, Int.toNat_natCast, Int.reduceToNat, List.replicate_zero, Int.toNat_zero]
    exact ⟨.str (digT n), rfl, rfl, rfl, it.en, it.call, .str (markT m 4), rfl, rfl, rfl, mt.en, mt.call, by
      have h1 : (digT n).size = 1 := rfl
      unfold lim; omega, rfl⟩
/-- Which label has a text: the first of 64. -/
def lblJ (s : ByteArray) (j : Nat) : Bool := decide (lblT (j / 16 : Nat) (j % 16 : Nat) = s)
def lblF (s : ByteArray) : Option Nat := (List.range 64).find? (lblJ s)
abbrev LR (s : ByteArray) : AV := .tup [LB ((lblF s).getD 0 / 16 : Nat) ((lblF s).getD 0 % 16 : Nat), .bool (lblF s).isSome]
theorem lblF_some {s : ByteArray} {j : Nat} (hj : j < 64) (h : lblJ s j = true) (hn : ∀ i, i < j → lblJ s i = false) : lblF s = some j := by
  unfold lblF
  rw [List.find?_eq_some_iff_getElem]
  refine ⟨h, j, by simpa using hj, by simp, fun i hi => ?_⟩
  simp [hn i hi]
theorem lblF_none {s : ByteArray} (hn : ∀ i, i < 64 → lblJ s i = false) : lblF s = none := by
  unfold lblF
  rw [List.find?_eq_none]
  intro x hx
  rw [hn x (by simpa using hx)]
  simp
theorem TY_readS {P : Program} (hP : P = Tryd.prog) : ((zeroT P 40 = some (((.int .i64 0) :: ((.int .i64 0) :: [])))) ∧ (bldT P 40 = true)) ∧ ((plT P 40 0 = some ((0, 1))) ∧ ((plT P 40 1 = some ((1, 1))) ∧ (tyT P 40 = some ((true, 2))))) := by subst hP; refine ⟨⟨?_, ?_⟩, ⟨?_, ⟨?_, ?_⟩⟩⟩ <;> kernel_rfl
theorem readS {P : Program} [Known P] (hP : P = Tryd.prog) (s : ByteArray) : Fun P 30 [.str s] (LR s) := by
  refine fun_of (fn := Tryd.f30) (hP ▸ Tryd.func30) (by kernel_rfl) (by kernel_rfl) (by kernel_rfl) (by kernel_rfl) ?_
  have hT := TY_readS hP
  have tx := @lblTextS P _ hP
  clear hP
  intro hl
  clear hl
  simp only [Tryd.f30, hT, bytB, boo, eqK, isC, convK, fitsK, List.length_append, inst, instV, instC, instT, Bool.and_false, Bool.true_and, Bool.false_and, Bool.and_true, Bool.or_true, Bool.or_false, argTm, Option.getD_some, wpcE, SeqE, BlkE, RndE, wopsE, RetE, RetXE, RetRE, resR, stp, bin, binI, numK, dstOf, St.ev, St.put, gtm, geth, seth, setAll, setRow, srcW, bndW, bldW, rowsW, setC, rdR, rdL, remh, Nat.beq, cond_true, cond_false, ofVal, resW, absC, pkR, selH, List.headD, true_and, and_true, List.toArray, AV.cells?, AV.nb, List.map_cons, List.map_nil, List.length_cons, List.length_nil, List.getD_cons_zero, List.getD_cons_succ, Nat.zero_add, Nat.reduceAdd, Nat.reduceLT, Nat.reduceLeDiff, List.drop, List.take, puL, AV.pu, Bool.and_self, packT, Nat.lt_add_one, Nat.le_refl, Bool.not_true, Bool.not_false, List.set, List.all, AV.one, List.cons_append, List.nil_append, Bool.true_or, Bool.false_or, npL, AV.np, sub, subL, List.length_map, Bool.or_self, Nat.add_zero, Int.toNat_natCast, Int.reduceToNat, List.replicate_zero, Int.toNat_zero]
  refine wpc_loop2 {i : Nat // i ≤ 4 ∧ ∀ j, j < 16 * i → lblJ s j = false} (fun i => ⟨[(0, .str s), (2, .cp 0 0 0), (4, .int .i64 i.1)], [(0, ⟨2, [[.int .i64 0, .int .i64 0]], [], true⟩)], 1⟩) (fun i => 4 - i.1) ⟨0, by omega, fun j hj => by omega⟩ ?_ ?_
  · rintro ⟨i, hi, hn⟩
    simp only [hT, bytB, boo, eqK, isC, convK, fitsK, List.length_append, inst, instV, instC, instT, Bool.and_false, Bool.true_and, Bool.false_and, Bool.and_true, Bool.or_true, Bool.or_false, argTm, Option.getD_some, wpcE, SeqE, BlkE, RndE, wopsE, RetE, RetXE, RetRE, resR, stp, bin, binI, numK, dstOf, St.ev, St.put, gtm, geth, seth, setAll, setRow, srcW, bndW, bldW, rowsW, setC, rdR, rdL, remh, Nat.beq, cond_true, cond_false, ofVal, resW, absC, pkR, selH, List.headD, true_and, and_true, List.toArray, AV.cells?, AV.nb, List.map_cons, List.map_nil, List.length_cons, List.length_nil, List.getD_cons_zero, List.getD_cons_succ, Nat.zero_add, Nat.reduceAdd, Nat.reduceLT, Nat.reduceLeDiff, List.drop, List.take, puL, AV.pu, Bool.and_self, packT, Nat.lt_add_one, Nat.le_refl, Bool.not_true, Bool.not_false, List.set, List.all, AV.one, List.cons_append, List.nil_append, Bool.true_or, Bool.false_or, npL, AV.np, sub, subL, List.length_map, Bool.or_self, Nat.add_zero, Int.toNat_natCast, Int.reduceToNat, List.replicate_zero, Int.toNat_zero]
    refine ⟨fun h => ?_, fun h => ?_⟩
    · have h := of_decide_eq_true h
      refine wpc_loop2 {m : Nat // m ≤ 16 ∧ ∀ j, j < 16 * i + m → lblJ s j = false} (fun m => ⟨[(0, .str s), (2, .cp 0 0 0), (4, .int .i64 i), (5, .int .i64 m.1)], [(0, ⟨2, [[.int .i64 0, .int .i64 0]], [], true⟩)], 1⟩) (fun m => 16 - m.1) ⟨0, by omega, fun j hj => hn j (by omega)⟩ ?_ ?_
      · rintro ⟨m, hm, hn2⟩
        simp only [hT, bytB, boo, eqK, isC, convK, fitsK, List.length_append, inst, instV, instC, instT, Bool.and_false, Bool.true_and, Bool.false_and, Bool.and_true, Bool.or_true, Bool.or_false, argTm, Option.getD_some, wpcE, SeqE, BlkE, RndE, wopsE, RetE, RetXE, RetRE, resR, stp, bin, binI, numK, dstOf, St.ev, St.put, gtm, geth, seth, setAll, setRow, srcW, bndW, bldW, rowsW, setC, rdR, rdL, remh, Nat.beq, cond_true, cond_false, ofVal, resW, absC, pkR, selH, List.headD, true_and, and_true, List.toArray, AV.cells?, AV.nb, List.map_cons, List.map_nil, List.length_cons, List.length_nil, List.getD_cons_zero, List.getD_cons_succ, Nat.zero_add, Nat.reduceAdd, Nat.reduceLT, Nat.reduceLeDiff, List.drop, List.take, puL, AV.pu, Bool.and_self, packT, Nat.lt_add_one, Nat.le_refl, Bool.not_true, Bool.not_false, List.set, List.all, AV.one, List.cons_append, List.nil_append, Bool.true_or, Bool.false_or, npL, AV.np, sub, subL, List.length_map, Bool.or_self, Nat.add_zero, Int.toNat_natCast, Int.reduceToNat, List.replicate_zero, Int.toNat_zero]
        refine ⟨fun h2 => ?_, fun h2 => ?_⟩
        · have h2 := of_decide_eq_true h2
          have ej : lblJ s (16 * i + m) = decide (lblT i m = s) := by
            unfold lblJ
            rw [show (16 * i + m) / 16 = i by omega, show (16 * i + m) % 16 = m by omega]
          refine Fun.plain (tx i m) rfl rfl rfl rfl ?_; simp only [hT, nneg, beq_self_eq_true, decide_true, decide_false, If_lit, Int.cast_ofNat_Int, Int.reduceLT, Int.reduceLE, bytB, boo, eqK, isC, convK, fitsK, List.length_append, inst, instV, instC, instT, Bool.and_false, Bool.true_and, Bool.false_and, Bool.and_true, Bool.or_true, Bool.or_false, argTm, Option.getD_some, wpcE, SeqE, BlkE, RndE, wopsE, RetE, RetXE, RetRE, resR, stp, bin, binI, numK, dstOf, St.ev, St.put, gtm, geth, seth, setAll, setRow, srcW, bndW, bldW, rowsW, setC, rdR, rdL, remh, Nat.beq, cond_true, cond_false, ofVal, resW, absC, pkR, selH, List.headD, true_and, and_true, List.toArray, AV.cells?, AV.nb, List.map_cons, List.map_nil, List.length_cons, List.length_nil, List.getD_cons_zero, List.getD_cons_succ, Nat.zero_add, Nat.reduceAdd, Nat.reduceLT, Nat.reduceLeDiff, List.drop, List.take, puL, AV.pu, Bool.and_self, packT, Nat.lt_add_one, Nat.le_refl, Bool.not_true, Bool.not_false, List.set, List.all, AV.one, List.cons_append, List.nil_append, Bool.true_or, Bool.false_or, npL, AV.np, sub, subL, List.length_map, Bool.or_self, Nat.add_zero, Int.toNat_natCast, Int.reduceToNat, List.replicate_zero, Int.toNat_zero]; (try unfold lim); repeat first | ((with_reducible refine And.intro ?_ ?_); (first | omega | exact ⟨by omega, by omega⟩ | rfl)) | intro _
          refine If.mk (fun q => ?_) (fun q => ?_)
          · have hf := lblF_some (j := 16 * i + m) (by omega) (by rw [ej]; exact q) hn2
            rw [hf]
            simp only [Option.getD_some]
            exact ⟨⟨by omega, by omega⟩, rfl⟩
          · refine ⟨⟨by omega, by omega⟩, ⟨m + 1, by omega, fun j hj => ?_⟩, by simp only; omega, Le.of [] (Nat.zero_le _) ?_ ?_ ?_⟩
            · by_cases hjm : j = 16 * i + m
              · subst hjm; rw [ej]; exact q
              · exact hn2 j (by omega)
            all_goals simp only [leT, Nat.le_refl, List.map_nil, eq_self, and_self,  leH, leO, leR, leN, lkR, ren, renL, nbl, nblL, gtm, geth, remh, sub, subL, Nat.beq, cond_true, cond_false, true_and, and_true, Nat.reduceLT, Nat.lt_add_one, Nat.zero_lt_one, Nat.zero_le, Nat.zero_add]
            all_goals first | omega | rfl | exact ⟨by omega, by omega⟩
        · have h2 := of_decide_eq_false h2
          refine ⟨⟨by omega, by omega⟩, ⟨i + 1, by omega, fun j hj => hn2 j (by omega)⟩, by simp only; omega, Le.of [] (Nat.zero_le _) ?_ ?_ ?_⟩ <;> simp only [leT, Nat.le_refl, List.map_nil, eq_self, and_self,  leH, leO, leR, leN, lkR, ren, renL, nbl, nblL, gtm, geth, remh, sub, subL, Nat.beq, cond_true, cond_false, true_and, and_true, Nat.reduceLT, Nat.lt_add_one, Nat.zero_lt_one, Nat.zero_le, Nat.zero_add]
          all_goals first | omega | rfl | exact ⟨by omega, by omega⟩
      · refine Le.of [] (Nat.zero_le _) ?_ ?_ ?_ <;> simp only [leT, Nat.le_refl, List.map_nil, eq_self, and_self,  leH, leO, leR, leN, lkR, ren, renL, nbl, nblL, gtm, geth, remh, sub, subL, Nat.beq, cond_true, cond_false, true_and, and_true, Nat.reduceLT, Nat.lt_add_one, Nat.zero_lt_one, Nat.zero_le, Nat.zero_add]
        all_goals first | rfl | exact ⟨rfl, rfl⟩
    · have h := of_decide_eq_false h
      have hf := lblF_none (s := s) (fun j hj => hn j (by omega))
      rw [hf]
      exact ⟨⟨rfl, rfl⟩, rfl⟩
  · refine Le.of [] (Nat.zero_le _) ?_ ?_ ?_ <;> simp only [leT, Nat.le_refl, List.map_nil, eq_self, and_self,  leH, leO, leR, leN, lkR, ren, renL, nbl, nblL, gtm, geth, remh, sub, subL, Nat.beq, cond_true, cond_false, true_and, and_true, Nat.reduceLT, Nat.lt_add_one, Nat.zero_lt_one, Nat.zero_le, Nat.zero_add]
    all_goals first | rfl | exact ⟨rfl, rfl⟩
theorem TY_readI {P : Program} (hP : P = Tryd.prog) : ((zeroT P 40 = some (((.int .i64 0) :: ((.int .i64 0) :: [])))) ∧ (bldT P 40 = true)) ∧ ((plT P 40 0 = some ((0, 1))) ∧ ((plT P 40 1 = some ((1, 1))) ∧ (tyT P 40 = some ((true, 2))))) := by subst hP; refine ⟨⟨?_, ?_⟩, ⟨?_, ⟨?_, ?_⟩⟩⟩ <;> kernel_rfl
theorem readI {P : Program} [Known P] (hP : P = Tryd.prog) (s : ByteArray) : Fun P 31 [.str s] (LR s) := by
  refine fun_of (fn := Tryd.f31) (hP ▸ Tryd.func31) (by kernel_rfl) (by kernel_rfl) (by kernel_rfl) (by kernel_rfl) ?_
  have hT := TY_readI hP
  have tx := @lblTextI P _ hP
  clear hP
  intro hl
  clear hl
  simp only [Tryd.f31, hT, bytB, boo, eqK, isC, convK, fitsK, List.length_append, inst, instV, instC, instT, Bool.and_false, Bool.true_and, Bool.false_and, Bool.and_true, Bool.or_true, Bool.or_false, argTm, Option.getD_some, wpcE, SeqE, BlkE, RndE, wopsE, RetE, RetXE, RetRE, resR, stp, bin, binI, numK, dstOf, St.ev, St.put, gtm, geth, seth, setAll, setRow, srcW, bndW, bldW, rowsW, setC, rdR, rdL, remh, Nat.beq, cond_true, cond_false, ofVal, resW, absC, pkR, selH, List.headD, true_and, and_true, List.toArray, AV.cells?, AV.nb, List.map_cons, List.map_nil, List.length_cons, List.length_nil, List.getD_cons_zero, List.getD_cons_succ, Nat.zero_add, Nat.reduceAdd, Nat.reduceLT, Nat.reduceLeDiff, List.drop, List.take, puL, AV.pu, Bool.and_self, packT, Nat.lt_add_one, Nat.le_refl, Bool.not_true, Bool.not_false, List.set, List.all, AV.one, List.cons_append, List.nil_append, Bool.true_or, Bool.false_or, npL, AV.np, sub, subL, List.length_map, Bool.or_self, Nat.add_zero, Int.toNat_natCast, Int.reduceToNat, List.replicate_zero, Int.toNat_zero]
  refine wpc_loop2 {i : Nat // i ≤ 4 ∧ ∀ j, j < 16 * i → lblJ s j = false} (fun i => ⟨[(0, .str s), (2, .cp 0 0 0), (7, .int .i64 i.1)], [(0, ⟨2, [[.int .i64 0, .int .i64 0]], [], true⟩)], 1⟩) (fun i => 4 - i.1) ⟨0, by omega, fun j hj => by omega⟩ ?_ ?_
  · rintro ⟨i, hi, hn⟩
    simp only [hT, bytB, boo, eqK, isC, convK, fitsK, List.length_append, inst, instV, instC, instT, Bool.and_false, Bool.true_and, Bool.false_and, Bool.and_true, Bool.or_true, Bool.or_false, argTm, Option.getD_some, wpcE, SeqE, BlkE, RndE, wopsE, RetE, RetXE, RetRE, resR, stp, bin, binI, numK, dstOf, St.ev, St.put, gtm, geth, seth, setAll, setRow, srcW, bndW, bldW, rowsW, setC, rdR, rdL, remh, Nat.beq, cond_true, cond_false, ofVal, resW, absC, pkR, selH, List.headD, true_and, and_true, List.toArray, AV.cells?, AV.nb, List.map_cons, List.map_nil, List.length_cons, List.length_nil, List.getD_cons_zero, List.getD_cons_succ, Nat.zero_add, Nat.reduceAdd, Nat.reduceLT, Nat.reduceLeDiff, List.drop, List.take, puL, AV.pu, Bool.and_self, packT, Nat.lt_add_one, Nat.le_refl, Bool.not_true, Bool.not_false, List.set, List.all, AV.one, List.cons_append, List.nil_append, Bool.true_or, Bool.false_or, npL, AV.np, sub, subL, List.length_map, Bool.or_self, Nat.add_zero, Int.toNat_natCast, Int.reduceToNat, List.replicate_zero, Int.toNat_zero]
    refine ⟨fun h => ?_, fun h => ?_⟩
    · have h := of_decide_eq_true h
      refine wpc_loop2 {m : Nat // m ≤ 16 ∧ ∀ j, j < 16 * i + m → lblJ s j = false} (fun m => ⟨[(0, .str s), (2, .cp 0 0 0), (7, .int .i64 i), (4, .int .i64 i), (10, .int .i64 m.1)], [(0, ⟨2, [[.int .i64 0, .int .i64 0]], [], true⟩)], 1⟩) (fun m => 16 - m.1) ⟨0, by omega, fun j hj => hn j (by omega)⟩ ?_ ?_
      · rintro ⟨m, hm, hn2⟩
        simp only [hT, bytB, boo, eqK, isC, convK, fitsK, List.length_append, inst, instV, instC, instT, Bool.and_false, Bool.true_and, Bool.false_and, Bool.and_true, Bool.or_true, Bool.or_false, argTm, Option.getD_some, wpcE, SeqE, BlkE, RndE, wopsE, RetE, RetXE, RetRE, resR, stp, bin, binI, numK, dstOf, St.ev, St.put, gtm, geth, seth, setAll, setRow, srcW, bndW, bldW, rowsW, setC, rdR, rdL, remh, Nat.beq, cond_true, cond_false, ofVal, resW, absC, pkR, selH, List.headD, true_and, and_true, List.toArray, AV.cells?, AV.nb, List.map_cons, List.map_nil, List.length_cons, List.length_nil, List.getD_cons_zero, List.getD_cons_succ, Nat.zero_add, Nat.reduceAdd, Nat.reduceLT, Nat.reduceLeDiff, List.drop, List.take, puL, AV.pu, Bool.and_self, packT, Nat.lt_add_one, Nat.le_refl, Bool.not_true, Bool.not_false, List.set, List.all, AV.one, List.cons_append, List.nil_append, Bool.true_or, Bool.false_or, npL, AV.np, sub, subL, List.length_map, Bool.or_self, Nat.add_zero, Int.toNat_natCast, Int.reduceToNat, List.replicate_zero, Int.toNat_zero]
        refine ⟨fun h2 => ?_, fun h2 => ?_⟩
        · have h2 := of_decide_eq_true h2
          have ej : lblJ s (16 * i + m) = decide (lblT i m = s) := by
            unfold lblJ
            rw [show (16 * i + m) / 16 = i by omega, show (16 * i + m) % 16 = m by omega]
          refine Fun.plain (tx i m) rfl rfl rfl rfl ?_; simp only [hT, nneg, beq_self_eq_true, decide_true, decide_false, If_lit, Int.cast_ofNat_Int, Int.reduceLT, Int.reduceLE, bytB, boo, eqK, isC, convK, fitsK, List.length_append, inst, instV, instC, instT, Bool.and_false, Bool.true_and, Bool.false_and, Bool.and_true, Bool.or_true, Bool.or_false, argTm, Option.getD_some, wpcE, SeqE, BlkE, RndE, wopsE, RetE, RetXE, RetRE, resR, stp, bin, binI, numK, dstOf, St.ev, St.put, gtm, geth, seth, setAll, setRow, srcW, bndW, bldW, rowsW, setC, rdR, rdL, remh, Nat.beq, cond_true, cond_false, ofVal, resW, absC, pkR, selH, List.headD, true_and, and_true, List.toArray, AV.cells?, AV.nb, List.map_cons, List.map_nil, List.length_cons, List.length_nil, List.getD_cons_zero, List.getD_cons_succ, Nat.zero_add, Nat.reduceAdd, Nat.reduceLT, Nat.reduceLeDiff, List.drop, List.take, puL, AV.pu, Bool.and_self, packT, Nat.lt_add_one, Nat.le_refl, Bool.not_true, Bool.not_false, List.set, List.all, AV.one, List.cons_append, List.nil_append, Bool.true_or, Bool.false_or, npL, AV.np, sub, subL, List.length_map, Bool.or_self, Nat.add_zero, Int.toNat_natCast, Int.reduceToNat, List.replicate_zero, Int.toNat_zero]; (try unfold lim); repeat first | ((with_reducible refine And.intro ?_ ?_); (first | omega | exact ⟨by omega, by omega⟩ | rfl)) | intro _
          refine If.mk (fun q => ?_) (fun q => ?_)
          · have hf := lblF_some (j := 16 * i + m) (by omega) (by rw [ej]; exact q) hn2
            rw [hf]
            simp only [Option.getD_some]
            exact ⟨⟨by omega, by omega⟩, rfl⟩
          · refine ⟨⟨by omega, by omega⟩, ⟨m + 1, by omega, fun j hj => ?_⟩, by simp only; omega, Le.of [] (Nat.zero_le _) ?_ ?_ ?_⟩
            · by_cases hjm : j = 16 * i + m
              · subst hjm; rw [ej]; exact q
              · exact hn2 j (by omega)
            all_goals simp only [leT, Nat.le_refl, List.map_nil, eq_self, and_self,  leH, leO, leR, leN, lkR, ren, renL, nbl, nblL, gtm, geth, remh, sub, subL, Nat.beq, cond_true, cond_false, true_and, and_true, Nat.reduceLT, Nat.lt_add_one, Nat.zero_lt_one, Nat.zero_le, Nat.zero_add]
            all_goals first | omega | rfl | exact ⟨by omega, by omega⟩
        · have h2 := of_decide_eq_false h2
          refine ⟨⟨by omega, by omega⟩, ⟨i + 1, by omega, fun j hj => hn2 j (by omega)⟩, by simp only; omega, Le.of [] (Nat.zero_le _) ?_ ?_ ?_⟩ <;> simp only [leT, Nat.le_refl, List.map_nil, eq_self, and_self,  leH, leO, leR, leN, lkR, ren, renL, nbl, nblL, gtm, geth, remh, sub, subL, Nat.beq, cond_true, cond_false, true_and, and_true, Nat.reduceLT, Nat.lt_add_one, Nat.zero_lt_one, Nat.zero_le, Nat.zero_add]
          all_goals first | omega | rfl | exact ⟨by omega, by omega⟩
      · refine Le.of [] (Nat.zero_le _) ?_ ?_ ?_ <;> simp only [leT, Nat.le_refl, List.map_nil, eq_self, and_self,  leH, leO, leR, leN, lkR, ren, renL, nbl, nblL, gtm, geth, remh, sub, subL, Nat.beq, cond_true, cond_false, true_and, and_true, Nat.reduceLT, Nat.lt_add_one, Nat.zero_lt_one, Nat.zero_le, Nat.zero_add]
        all_goals first | rfl | exact ⟨rfl, rfl⟩
    · have h := of_decide_eq_false h
      have hf := lblF_none (s := s) (fun j hj => hn j (by omega))
      rw [hf]
      exact ⟨⟨rfl, rfl⟩, rfl⟩
  · refine Le.of [] (Nat.zero_le _) ?_ ?_ ?_ <;> simp only [leT, Nat.le_refl, List.map_nil, eq_self, and_self,  leH, leO, leR, leN, lkR, ren, renL, nbl, nblL, gtm, geth, remh, sub, subL, Nat.beq, cond_true, cond_false, true_and, and_true, Nat.reduceLT, Nat.lt_add_one, Nat.zero_lt_one, Nat.zero_le, Nat.zero_add]
    all_goals first | rfl | exact ⟨rfl, rfl⟩
end Go.Proofs.YtiaokhgfolbhnaaDoor.C
