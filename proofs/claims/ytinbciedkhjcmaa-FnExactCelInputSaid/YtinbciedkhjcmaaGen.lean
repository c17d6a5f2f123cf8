/- Plain law: loops that copy a list, that hold two lists against each other, that ask of each element. No program in sight. -/
import Derived.RowKit
namespace Go.Proofs.Ytinbciedkhjcmaa.Gen
open Go.RowKit

theorem w64 (x : Int) (h0 : -9223372036854775808 ≤ x) (h1 : x ≤ 9223372036854775807) : wrap64 x = x := by unfold wrap64; omega

/-- A loop that stores, element by element, what c makes of the old list. -/
theorem copy_loop {α β : Type} (c : α → β) (z : α) (xs : List α) (F : Nat → List β → Int → Option (List β))
    (hstep : ∀ k ys (i : Nat), i < xs.length → ys.length = xs.length → F (k + 1) ys (i : Int) = F k (ys.set i (c (xs.getD i z))) ((i + 1 : Nat) : Int))
    (hend : ∀ k ys, F (k + 1) ys (xs.length : Int) = some ys) :
    ∀ (d k i : Nat) (ys : List β), d + i = xs.length → d < k → ys.length = xs.length → (∀ j, j < i → ys[j]? = (xs.map c)[j]?) → F k ys (i : Int) = some (xs.map c) := by
  intro d
  induction d with
  | zero =>
    intro k i ys hd hk hl hj
    obtain ⟨k, rfl⟩ : ∃ m, k = m + 1 := ⟨k - 1, by omega⟩
    obtain rfl : i = xs.length := by omega
    rw [hend]
    congr 1
    apply List.ext_getElem?
    intro j
    by_cases h : j < xs.length
    · exact hj j h
    · rw [List.getElem?_eq_none (by omega), List.getElem?_eq_none (by simp; omega)]
  | succ d ih =>
    intro k i ys hd hk hl hj
    obtain ⟨k, rfl⟩ : ∃ m, k = m + 1 := ⟨k - 1, by omega⟩
    rw [hstep k ys i (by omega) hl]
    refine ih k (i + 1) _ (by omega) (by omega) (by simp [hl]) ?_
    intro j hj2
    by_cases e : j = i
    · subst e
      have hi : j < xs.length := by omega
      rw [List.getElem?_set_self (by omega), List.getElem?_map, List.getElem?_eq_getElem hi, List.getD_eq_getElem?_getD, List.getElem?_eq_getElem hi]
      rfl
    · rw [List.getElem?_set_ne (by omega)]
      exact hj j (by omega)

/-- A loop that goes on as long as p holds of the element. -/
theorem all_loop {α : Type} (p : α → Bool) (z : α) (xs : List α) (F : Nat → Int → Option Bool)
    (hstep : ∀ k (i : Nat), i < xs.length → F (k + 1) (i : Int) = if p (xs.getD i z) = true then F k ((i + 1 : Nat) : Int) else some false)
    (hend : ∀ k, F (k + 1) (xs.length : Int) = some true) :
    ∀ (d k i : Nat), d + i = xs.length → d < k → F k (i : Int) = some ((xs.drop i).all p) := by
  intro d
  induction d with
  | zero =>
    intro k i hd hk
    obtain ⟨k, rfl⟩ : ∃ m, k = m + 1 := ⟨k - 1, by omega⟩
    obtain rfl : i = xs.length := by omega
    rw [hend]; simp
  | succ d ih =>
    intro k i hd hk
    obtain ⟨k, rfl⟩ : ∃ m, k = m + 1 := ⟨k - 1, by omega⟩
    have hi : i < xs.length := by omega
    rw [hstep k i hi, ih k (i + 1) (by omega) (by omega)]
    have e : xs.drop i = xs.getD i z :: xs.drop (i + 1) := by
      rw [List.drop_eq_getElem_cons hi, List.getD_eq_getElem?_getD, List.getElem?_eq_getElem hi]; rfl
    rw [e, List.all_cons]
    generalize p (xs.getD i z) = b
    cases b <;> simp
theorem getD_mem {α : Type} {xs : List α} {z : α} {i : Nat} (h : i < xs.length) : xs.getD i z ∈ xs := by
  rw [List.getD_eq_getElem?_getD, List.getElem?_eq_getElem h]; exact List.getElem_mem h
end Go.Proofs.Ytinbciedkhjcmaa.Gen
