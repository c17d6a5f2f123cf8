/- A number between two bounds, by the given text. -/
import Derived.Test.YtjlmfcddbcoimaaGreatAvM2
import Derived.Test.YtjlmfcddbcoimaaGreatProg
set_option maxRecDepth 100000
set_option linter.unusedSimpArgs false
set_option linter.unusedVariables false
namespace Go.Proofs.YtjlmfcddbcoimaaGreat.C
open Go Go.Av Go.Proofs
open Nat (reduceAdd reduceLT reduceLeDiff reduceSub)
open Int (reduceToNat)
def inR (a b c : Int) : Bool := decide (b ≤ a) && decide (a ≤ c)
theorem TY_l1In {P : Program} (hP : P = Tryz.prog) : True := trivial
theorem l1In {P : Program} [Known P] (hP : P = Tryz.prog) (a b c : Int) : Fun P 55 [.int .i64 a, .int .i64 b, .int .i64 c] (.bool (decide (b ≤ a) && decide (a ≤ c))) := by
  refine fun_of (fn := Tryz.f55) (hP ▸ Tryz.func55) (by kernel_rfl) (by kernel_rfl) (by kernel_rfl) (by kernel_rfl) ?_
  have hT := TY_l1In hP
  clear hP
  intro hl
  clear hl
  simp only [Tryz.f55, hT, eA, Nat.beq, List.toArray, reduceAdd, reduceLT, reduceLeDiff, reduceToNat]
  exact ⟨fun q => by rw [q]; rfl, fun q => by rw [q]; rfl⟩
end Go.Proofs.YtjlmfcddbcoimaaGreat.C
