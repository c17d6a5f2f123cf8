/- Rows of numbers, by name. -/
import Derived.Test.YtiaokhgfolbhnaaDoorAvV
set_option linter.unusedSimpArgs false
set_option linter.unusedVariables false
namespace Go.Proofs.YtiaokhgfolbhnaaDoor.C
open Go Go.Av Go.Proofs
/-- Rows of numbers, by name. -/
def iRows (L : List Int) : List (List AV) := L.map fun n => [.int .i64 n]
theorem iRows_getD (L : List Int) (k : Nat) : (iRows L).getD k [.int .i64 0] = [.int .i64 (L.getD k 0)] := by
  unfold iRows
  simp only [List.getD_eq_getElem?_getD, List.getElem?_map]
  cases L[k]? <;> rfl
theorem iRows_length (L : List Int) : (iRows L).length = L.length := by simp [iRows]
theorem iRow1 (x0 : Int) : ([[.int .i64 x0]] : List (List AV)) = iRows [x0] := rfl
theorem iRow2 (x0 x1 : Int) : ([[.int .i64 x0], [.int .i64 x1]] : List (List AV)) = iRows [x0, x1] := rfl
theorem iRow3 (x0 x1 x2 : Int) : ([[.int .i64 x0], [.int .i64 x1], [.int .i64 x2]] : List (List AV)) = iRows [x0, x1, x2] := rfl
theorem iRow4 (x0 x1 x2 x3 : Int) : ([[.int .i64 x0], [.int .i64 x1], [.int .i64 x2], [.int .i64 x3]] : List (List AV)) = iRows [x0, x1, x2, x3] := rfl
theorem iRow5 (x0 x1 x2 x3 x4 : Int) : ([[.int .i64 x0], [.int .i64 x1], [.int .i64 x2], [.int .i64 x3], [.int .i64 x4]] : List (List AV)) = iRows [x0, x1, x2, x3, x4] := rfl
theorem iRow6 (x0 x1 x2 x3 x4 x5 : Int) : ([[.int .i64 x0], [.int .i64 x1], [.int .i64 x2], [.int .i64 x3], [.int .i64 x4], [.int .i64 x5]] : List (List AV)) = iRows [x0, x1, x2, x3, x4, x5] := rfl
theorem iRow7 (x0 x1 x2 x3 x4 x5 x6 : Int) : ([[.int .i64 x0], [.int .i64 x1], [.int .i64 x2], [.int .i64 x3], [.int .i64 x4], [.int .i64 x5], [.int .i64 x6]] : List (List AV)) = iRows [x0, x1, x2, x3, x4, x5, x6] := rfl
theorem iRow8 (x0 x1 x2 x3 x4 x5 x6 x7 : Int) : ([[.int .i64 x0], [.int .i64 x1], [.int .i64 x2], [.int .i64 x3], [.int .i64 x4], [.int .i64 x5], [.int .i64 x6], [.int .i64 x7]] : List (List AV)) = iRows [x0, x1, x2, x3, x4, x5, x6, x7] := rfl
theorem iRow9 (x0 x1 x2 x3 x4 x5 x6 x7 x8 : Int) : ([[.int .i64 x0], [.int .i64 x1], [.int .i64 x2], [.int .i64 x3], [.int .i64 x4], [.int .i64 x5], [.int .i64 x6], [.int .i64 x7], [.int .i64 x8]] : List (List AV)) = iRows [x0, x1, x2, x3, x4, x5, x6, x7, x8] := rfl
theorem iRow10 (x0 x1 x2 x3 x4 x5 x6 x7 x8 x9 : Int) : ([[.int .i64 x0], [.int .i64 x1], [.int .i64 x2], [.int .i64 x3], [.int .i64 x4], [.int .i64 x5], [.int .i64 x6], [.int .i64 x7], [.int .i64 x8], [.int .i64 x9]] : List (List AV)) = iRows [x0, x1, x2, x3, x4, x5, x6, x7, x8, x9] := rfl
theorem iRow11 (x0 x1 x2 x3 x4 x5 x6 x7 x8 x9 x10 : Int) : ([[.int .i64 x0], [.int .i64 x1], [.int .i64 x2], [.int .i64 x3], [.int .i64 x4], [.int .i64 x5], [.int .i64 x6], [.int .i64 x7], [.int .i64 x8], [.int .i64 x9], [.int .i64 x10]] : List (List AV)) = iRows [x0, x1, x2, x3, x4, x5, x6, x7, x8, x9, x10] := rfl
theorem iRow12 (x0 x1 x2 x3 x4 x5 x6 x7 x8 x9 x10 x11 : Int) : ([[.int .i64 x0], [.int .i64 x1], [.int .i64 x2], [.int .i64 x3], [.int .i64 x4], [.int .i64 x5], [.int .i64 x6], [.int .i64 x7], [.int .i64 x8], [.int .i64 x9], [.int .i64 x10], [.int .i64 x11]] : List (List AV)) = iRows [x0, x1, x2, x3, x4, x5, x6, x7, x8, x9, x10, x11] := rfl
theorem iRow13 (x0 x1 x2 x3 x4 x5 x6 x7 x8 x9 x10 x11 x12 : Int) : ([[.int .i64 x0], [.int .i64 x1], [.int .i64 x2], [.int .i64 x3], [.int .i64 x4], [.int .i64 x5], [.int .i64 x6], [.int .i64 x7], [.int .i64 x8], [.int .i64 x9], [.int .i64 x10], [.int .i64 x11], [.int .i64 x12]] : List (List AV)) = iRows [x0, x1, x2, x3, x4, x5, x6, x7, x8, x9, x10, x11, x12] := rfl
theorem iRows_app (xs : List Int) (x : Int) : iRows (xs ++ [x]) = iRows xs ++ [[.int .i64 x]] := by unfold iRows; rw [List.map_append]; rfl
end Go.Proofs.YtiaokhgfolbhnaaDoor.C
