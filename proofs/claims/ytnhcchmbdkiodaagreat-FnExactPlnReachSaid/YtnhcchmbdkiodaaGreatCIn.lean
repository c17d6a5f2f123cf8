/- A number between two bounds, by the given text. -/
import Derived.Test.YtnhcchmbdkiodaaGreatAvVg
import Derived.Test.YtnhcchmbdkiodaaGreatProg
set_option maxRecDepth 100000
set_option linter.unusedSimpArgs false
set_option linter.unusedVariables false
namespace Go.Proofs.YtnhcchmbdkiodaaGreat.C
open Go Go.Av Go.Proofs
def inR (a b c : Int) : Bool := decide (b ≤ a) && decide (a ≤ c)
theorem TY_l1In {P : Program} (hP : P = Tryz.prog) : True := trivial
theorem l1In {P : Program} [Known P] (hP : P = Tryz.prog) (a b c : Int) : Fun P 36 [.int .i64 a, .int .i64 b, .int .i64 c] (.bool (decide (b ≤ a) && decide (a ≤ c))) := by
  refine fun_of (fn := Tryz.f36) (hP ▸ Tryz.func36) (by kernel_rfl) (by kernel_rfl) (by kernel_rfl) (by kernel_rfl) ?_
  have hT := TY_l1In hP
  clear hP
  intro hl
  clear hl
  simp only [Tryz.f36, hT, eE, bytB, boo, eqK, isC, convK, fitsK, inst, instV, instC, instT, argTm, wpcE, SeqE, BlkE, RndE, wopsE, RetE, RetXE, RetRE, RetGE, resR, stp, bin, binI, numK, dstOf, St.ev, St.put, gtm, geth, seth, setAll, setRow, srcW, bndW, bldW, rowsW, setC, rdR, rdL, remh, Nat.beq, ofVal, resW, absC, pkR, selH, List.headD, List.toArray, AV.cells?, AV.nb, Nat.reduceAdd, Nat.reduceLT, Nat.reduceLeDiff, List.drop, List.take, puL, AV.pu, packT, List.set, List.all, AV.one, npL, AV.np, sub, subL, Int.reduceToNat]
  exact ⟨fun q => by rw [q]; rfl, fun q => by rw [q]; rfl⟩
end Go.Proofs.YtnhcchmbdkiodaaGreat.C
