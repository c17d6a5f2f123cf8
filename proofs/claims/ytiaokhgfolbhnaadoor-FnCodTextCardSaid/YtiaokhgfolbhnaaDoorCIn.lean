/- A number between two bounds, by the given text. -/
import Derived.Test.YtiaokhgfolbhnaaDoorAvY
import Derived.Test.YtiaokhgfolbhnaaDoorProg
set_option maxRecDepth 100000
set_option linter.unusedSimpArgs false
set_option linter.unusedVariables false
namespace Go.Proofs.YtiaokhgfolbhnaaDoor.C
open Go Go.Av Go.Proofs
def inR (a b c : Int) : Bool := decide (b ≤ a) && decide (a ≤ c)
theorem TY_l1In {P : Program} (hP : P = Tryd.prog) : True := trivial
theorem l1In {P : Program} [Known P] (hP : P = Tryd.prog) (a b c : Int) : Fun P 66 [.int .i64 a, .int .i64 b, .int .i64 c] (.bool (decide (b ≤ a) && decide (a ≤ c))) := by
  refine fun_of (fn := Tryd.f66) (hP ▸ Tryd.func66) (by kernel_rfl) (by kernel_rfl) (by kernel_rfl) (by kernel_rfl) ?_
  have hT := TY_l1In hP
  clear hP
  intro hl
  clear hl
  simp only [Tryd.f66, hT, List.append_eq, bytB, boo, eqK, isC, convK, fitsK, List.length_append, inst, instV, instC, instT, Bool.and_false, Bool.true_and, Bool.false_and, Bool.and_true, Bool.or_true, Bool.or_false, argTm, Option.getD_some, wpcE, SeqE, BlkE, RndE, wopsE, RetE, RetXE, RetRE, resR, stp, bin, binI, numK, dstOf, St.ev, St.put, gtm, geth, seth, setAll, setRow, srcW, bndW, bldW, rowsW, setC, rdR, rdL, remh, Nat.beq, cond_true, cond_false, ofVal, resW, absC, pkR, selH, List.headD, true_and, and_true, List.toArray, AV.cells?, AV.nb, List.map_cons, List.map_nil, List.length_cons, List.length_nil, List.getD_cons_zero, List.getD_cons_succ, Nat.zero_add, Nat.reduceAdd, Nat.reduceLT, Nat.reduceLeDiff, List.drop, List.take, puL, AV.pu, Bool.and_self, packT, Nat.lt_add_one, Nat.le_refl, Bool.not_true, Bool.not_false, List.set, List.all, AV.one, List.cons_append, List.nil_append, Bool.true_or, Bool.false_or, npL, AV.np, sub, subL, List.length_map, Bool.or_self, Nat.add_zero, Int.toNat_natCast, Int.reduceToNat, List.replicate_zero, Int.toNat_zero]
  exact ⟨fun q => by rw [q]; rfl, fun q => by rw [q]; rfl⟩
end Go.Proofs.YtiaokhgfolbhnaaDoor.C
