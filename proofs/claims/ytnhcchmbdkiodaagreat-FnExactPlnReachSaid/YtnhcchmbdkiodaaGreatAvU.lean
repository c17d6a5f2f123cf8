/- Engine, part 15: lists of bytes, lists being filled. -/
import Derived.Test.YtnhcchmbdkiodaaGreatAvN
set_option linter.unusedVariables false
set_option linter.unusedSimpArgs false
set_option autoImplicit false
namespace Go.Av

def byt (b : UInt8) : List AV := [.int .u8 b.toNat]
theorem getEnc {α : Type} (f : α → List AV) (l : List α) (j : Nat) (d : α) : (l.map f).getD j (f d) = f (l.getD j d) := by
  simp only [List.getD_eq_getElem?_getD, List.getElem?_map]
  cases l[j]? <;> rfl
theorem getByt (l : List UInt8) (j : Nat) : (l.map byt).getD j [.int .u8 0] = [.int .u8 (l.getD j 0).toNat] := getEnc byt l j 0
theorem bytB (l : List UInt8) : (l.map byt).all isB = true ∧ (l.map byt).map cB = l := by
  refine ⟨by simp [byt, isB], ?_⟩
  rw [List.map_map]
  refine (List.map_congr_left fun b _ => ?_).trans (List.map_id l)
  simp [byt, cB]
/-- A list being filled from the front. -/
theorem fillSet {α β : Type} (f : α → β) (l : List α) (z : β) (i : Nat) (d : α) (h : i < l.length) :
    ((l.take i).map f ++ List.replicate (l.length - i) z).set i (f (l.getD i d)) = (l.take (i + 1)).map f ++ List.replicate (l.length - (i + 1)) z := by
  have h1 : ((l.take i).map f).length = i := by simp; omega
  rw [List.set_append_right _ _ (by omega), h1, Nat.sub_self]
  obtain ⟨k, hk⟩ : ∃ k, l.length - i = k + 1 := ⟨l.length - i - 1, by omega⟩
  rw [hk, List.replicate_succ, List.set_cons_zero, show l.length - (i + 1) = k by omega, List.take_add_one, List.getElem?_eq_getElem h]
  simp only [List.getD_eq_getElem?_getD, List.getElem?_eq_getElem h, Option.getD_some, Option.toList_some, List.map_append, List.map_cons, List.map_nil, List.append_assoc, List.cons_append, List.nil_append]
theorem fillAll {α β : Type} (f : α → β) (l : List α) (z : β) (i : Nat) (h : l.length ≤ i) : (l.take i).map f ++ List.replicate (l.length - i) z = l.map f := by
  rw [List.take_of_length_le h, show l.length - i = 0 by omega]; simp
end Go.Av
