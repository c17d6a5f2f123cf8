/- Labels: whether they are ok, and flow, by both texts. -/
import Derived.Test.YtjlmfcddbcoimaaGreatCIn
import Derived.Test.YtjlmfcddbcoimaaGreatProg
set_option maxRecDepth 100000
set_option linter.unusedSimpArgs false
set_option linter.unusedVariables false
namespace Go.Proofs.YtjlmfcddbcoimaaGreat.C
open Go Go.Av Go.Proofs
open Nat (reduceAdd reduceLT reduceLeDiff reduceSub)
open Int (reduceToNat)
abbrev LB (n m : Int) : AV := .agg [.int .i64 n, .int .i64 m]
def lblOk (n m : Int) : Bool := decide (0 ≤ n) && decide (n ≤ 3) && (decide (0 ≤ m) && decide (m ≤ 15))
theorem lblOk_nat {n m : Int} (h : lblOk n m = true) : ∃ a b : Nat, n = a ∧ m = b ∧ a ≤ 3 ∧ b ≤ 15 := by
  unfold lblOk at h
  simp only [Bool.and_eq_true, decide_eq_true_eq] at h
  exact ⟨n.toNat, m.toNat, by omega, by omega, by omega, by omega⟩
theorem TY_toLblLabel {P : Program} (hP : P = Tryz.prog) : ((zeroT P 153 = some (((.int .i64 0) :: ((.int .i64 0) :: [])))) ∧ ((fldT P 186 0 = some ((0, (false, 1)))) ∧ (tyT P 3 = some ((false, 1))))) ∧ (((fldT P 153 0 = some ((0, (false, 1)))) ∧ (fldT P 186 1 = some ((1, (false, 1))))) ∧ ((fldT P 153 1 = some ((1, (false, 1)))) ∧ (tyT P 153 = some ((true, 2))))) := by subst hP; refine ⟨⟨?_, ⟨?_, ?_⟩⟩, ⟨⟨?_, ?_⟩, ⟨?_, ?_⟩⟩⟩ <;> kernel_rfl
theorem toLblLabel {P : Program} [Known P] (hP : P = Tryz.prog) (n m : Int) : Fun P 234 [LB n m] (LB n m) := by
  refine fun_of (fn := Tryz.f234) (hP ▸ Tryz.func234) (by kernel_rfl) (by kernel_rfl) (by kernel_rfl) (by kernel_rfl) ?_
  have hT := TY_toLblLabel hP
  clear hP
  intro hl
  clear hl
  simp only [Tryz.f234, hT, eA, Nat.beq, List.toArray, reduceAdd, reduceLT, reduceLeDiff, reduceToNat]
theorem TY_lblOkS {P : Program} (hP : P = Tryz.prog) : (fldT P 153 0 = some ((0, (false, 1)))) ∧ ((tyT P 3 = some ((false, 1))) ∧ (fldT P 153 1 = some ((1, (false, 1))))) := by subst hP; refine ⟨?_, ⟨?_, ?_⟩⟩ <;> kernel_rfl
theorem levelOk {P : Program} [Known P] (hP : P = Tryz.prog) (n : Int) : Fun P 315 [.int .i64 n] (.bool (decide (0 ≤ n) && decide (n ≤ 3))) := by
  refine fun_of (fn := Tryz.f315) (hP ▸ Tryz.func315) (by kernel_rfl) (by kernel_rfl) (by kernel_rfl) (by kernel_rfl) ?_
  have hT := TY_lblOkS hP
  clear hP
  intro hl
  clear hl
  simp only [Tryz.f315, hT, eA, Nat.beq, List.toArray, reduceAdd, reduceLT, reduceLeDiff, reduceToNat]
  exact ⟨fun q => by rw [q]; rfl, fun q => by rw [q]; rfl⟩
theorem marksOk {P : Program} [Known P] (hP : P = Tryz.prog) (n : Int) : Fun P 316 [.int .i64 n] (.bool (decide (0 ≤ n) && decide (n ≤ 15))) := by
  refine fun_of (fn := Tryz.f316) (hP ▸ Tryz.func316) (by kernel_rfl) (by kernel_rfl) (by kernel_rfl) (by kernel_rfl) ?_
  have hT := TY_lblOkS hP
  clear hP
  intro hl
  clear hl
  simp only [Tryz.f316, hT, eA, Nat.beq, List.toArray, reduceAdd, reduceLT, reduceLeDiff, reduceToNat]
  exact ⟨fun q => by rw [q]; rfl, fun q => by rw [q]; rfl⟩
theorem lblOkI {P : Program} [Known P] (hP : P = Tryz.prog) (n m : Int) : Fun P 289 [LB n m] (.bool (lblOk n m)) := by
  refine fun_of (fn := Tryz.f289) (hP ▸ Tryz.func289) (by kernel_rfl) (by kernel_rfl) (by kernel_rfl) (by kernel_rfl) ?_
  have hT := TY_lblOkS hP
  have lo := levelOk hP n
  have mo := marksOk hP m
  clear hP
  intro hl
  clear hl
  simp only [Tryz.f289, hT, eA, Nat.beq, List.toArray, reduceAdd, reduceLT, reduceLeDiff, reduceToNat]
  refine Fun.plain (lo) rfl rfl rfl rfl ?_; simp only [hT, eN, ↓If_lit, Int.reduceLT, Int.reduceLE, eA, Nat.beq, List.toArray, reduceAdd, reduceLT, reduceLeDiff, reduceToNat]; (try unfold lim); repeat first | ((with_reducible refine And.intro ?_ ?_); (first | omega | exact ⟨by omega, by omega⟩ | rfl)) | intro _
  refine ⟨fun q => ?_, fun q => by unfold lblOk; rw [q]; rfl⟩
  refine Fun.plain (mo) rfl rfl rfl rfl ?_; simp only [hT, eN, ↓If_lit, Int.reduceLT, Int.reduceLE, eA, Nat.beq, List.toArray, reduceAdd, reduceLT, reduceLeDiff, reduceToNat]; (try unfold lim); repeat first | ((with_reducible refine And.intro ?_ ?_); (first | omega | exact ⟨by omega, by omega⟩ | rfl)) | intro _
  unfold lblOk
  rw [q]; rfl
theorem lblOkS {P : Program} [Known P] (hP : P = Tryz.prog) (n m : Int) : Fun P 312 [LB n m] (.bool (lblOk n m)) := by
  refine fun_of (fn := Tryz.f312) (hP ▸ Tryz.func312) (by kernel_rfl) (by kernel_rfl) (by kernel_rfl) (by kernel_rfl) ?_
  have hT := TY_lblOkS hP
  have l1 := fun a b c => (l1In hP a b c : _)
  clear hP
  intro hl
  clear hl
  simp only [Tryz.f312, hT, eA, Nat.beq, List.toArray, reduceAdd, reduceLT, reduceLeDiff, reduceToNat]
  refine Fun.plain (l1 n 0 3) rfl rfl rfl rfl ?_; simp only [hT, eN, ↓If_lit, Int.reduceLT, Int.reduceLE, eA, Nat.beq, List.toArray, reduceAdd, reduceLT, reduceLeDiff, reduceToNat]; (try unfold lim); repeat first | ((with_reducible refine And.intro ?_ ?_); (first | omega | exact ⟨by omega, by omega⟩ | rfl)) | intro _
  refine ⟨fun q => ?_, fun q => by unfold lblOk; rw [q]; rfl⟩
  refine Fun.plain (l1 m 0 15) rfl rfl rfl rfl ?_; simp only [hT, eN, ↓If_lit, Int.reduceLT, Int.reduceLE, eA, Nat.beq, List.toArray, reduceAdd, reduceLT, reduceLeDiff, reduceToNat]; (try unfold lim); repeat first | ((with_reducible refine And.intro ?_ ?_); (first | omega | exact ⟨by omega, by omega⟩ | rfl)) | intro _
  unfold lblOk
  rw [q]; rfl
def lblFl (a b c d : Int) : Bool := lblOk a b && (lblOk c d && (decide (a ≤ c) && decide (bitK .or .i64 b d = d)))
end Go.Proofs.YtjlmfcddbcoimaaGreat.C
