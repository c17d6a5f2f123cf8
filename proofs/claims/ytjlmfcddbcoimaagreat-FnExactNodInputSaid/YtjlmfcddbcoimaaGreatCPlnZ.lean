/- How much a plan holds. -/
import Derived.Test.YtjlmfcddbcoimaaGreatCPlnA
set_option maxRecDepth 100000
set_option linter.unusedSimpArgs false
set_option linter.unusedVariables false
namespace Go.Proofs.YtjlmfcddbcoimaaGreat.C
open Go Go.Av Go.Proofs
open Nat (reduceAdd reduceLT reduceLeDiff reduceSub)
open Int (reduceToNat)
def szL (n : Nat) (left : Int) : Int := if left < n then -1 else left - n
def sumT {α : Type} (f : α → Nat) (l : List α) (i : Nat) : Nat := ((l.take i).map f).sum
theorem sumT_succ {α : Type} (f : α → Nat) (l : List α) (i : Nat) (z : α) (h : i < l.length) : sumT f l (i + 1) = sumT f l i + f (l.getD i z) := by
  unfold sumT
  rw [List.take_add_one, List.getElem?_eq_getElem h, List.map_append, List.sum_append, List.getD_eq_getElem?_getD, List.getElem?_eq_getElem h]
  simp
theorem sumT_le {α : Type} (f : α → Nat) (l : List α) : ∀ (i j : Nat), i ≤ j → sumT f l i ≤ sumT f l j
  | i, j, h => by
    unfold sumT
    obtain ⟨k, rfl⟩ : ∃ k, j = i + k := ⟨j - i, by omega⟩
    rw [List.take_add, List.map_append, List.sum_append]; omega
def sumA {α : Type} (f : α → Nat) (l : List α) : Nat := sumT f l l.length
theorem sumA_get {α : Type} (f : α → Nat) (l : List α) (i : Nat) (z : α) (h : i < l.length) : f (l.getD i z) ≤ sumA f l := by
  have h1 := sumT_succ f l i z h
  have h2 := sumT_le f l (i + 1) l.length (by omega)
  unfold sumA; omega
theorem TY_szVmOrderS {P : Program} (hP : P = Tryz.prog) : lkT P 187 = 1 := by subst hP; kernel_rfl
theorem szVmOrderS {P : Program} [Known P] (hP : P = Tryz.prog) (l : List (VOrd)) (a : Int) (h1 : 0 ≤ a) (h2 : a ≤ 1048576) : Fun P 221 [.sl 4 (l.map ordE) oZ, .int .i64 a] (.int .i64 (szL l.length a)) := by
  refine fun_of (fn := Tryz.f221) (hP ▸ Tryz.func221) (by kernel_rfl) (by kernel_rfl) (by kernel_rfl) (by kernel_rfl) ?_
  have hT := TY_szVmOrderS hP
  clear hP
  intro hl
  simp only [limL, limA, and_true, List.length_map] at hl
  simp only [Tryz.f221, hT, eA, Nat.beq, List.toArray, reduceAdd, reduceLT, reduceLeDiff, reduceToNat]
  unfold lim at hl
  have hl' := hl
  (try unfold lim); repeat first | ((with_reducible refine And.intro ?_ ?_); (first | omega | exact ⟨by omega, by omega⟩ | rfl)) | intro _
  unfold szL
  refine ⟨fun h => ?_, fun h => ?_⟩
  · simp only [decide_eq_true_eq] at h; rw [if_pos (by omega)]
  · simp only [decide_eq_false_iff_not] at h; rw [if_neg (by omega)]
theorem TY_szPlnCell {P : Program} (hP : P = Tryz.prog) : (fldT P 189 3 = some ((4, (false, 1)))) ∧ (tyT P 187 = some ((false, 1))) := by subst hP; refine ⟨?_, ?_⟩ <;> kernel_rfl
theorem szPlnCell {P : Program} [Known P] (hP : P = Tryz.prog) (x : VCell) (a : Int) (h1 : 0 ≤ a) (h2 : a ≤ 1048576) : Fun P 145 [.agg (cellS x), .int .i64 a] (.int .i64 (szL (x.2.2.2.1.length) a)) := by
  refine fun_of (fn := Tryz.f145) (hP ▸ Tryz.func145) (by kernel_rfl) (by kernel_rfl) (by kernel_rfl) (by kernel_rfl) ?_
  have hT := TY_szPlnCell hP
  have e0 := @szVmOrderS P _ hP
  clear hP
  intro hl
  clear hl
  simp only [cellS, Tryz.f145, hT, eA, Nat.beq, List.toArray, reduceAdd, reduceLT, reduceLeDiff, reduceToNat]
  have s0 : ∀ a, szL (x.2.2.2.1.length) a = if a < (x.2.2.2.1.length : Nat) then -1 else a - (x.2.2.2.1.length : Nat) := fun _ => rfl
  unfold szL
  refine Fun.plain (e0 _ a (by omega) (by omega)) rfl rfl rfl rfl ?_
  simp only [hT, eA, Nat.beq, List.toArray, reduceAdd, reduceLT, reduceLeDiff, reduceToNat]
  by_cases q0 : a < (x.2.2.2.1.length : Nat)
  · rw [s0, if_pos q0]; simp only [Int.reduceNeg, Int.reduceLT, decide_true, If_lit]; try rw [if_pos (by omega)]
  rw [s0, if_neg q0]
  simp only [decide_eq_false (show ¬ a - (x.2.2.2.1.length : Nat) < 0 by omega), If_lit, hT, eA, Nat.beq, List.toArray, reduceAdd, reduceLT, reduceLeDiff, reduceToNat]
  all_goals (first | (rw [if_neg (by omega)]; omega) | omega)
theorem TY_szPlnCellS {P : Program} (hP : P = Tryz.prog) : (lkT P 22 = 1) ∧ ((elT P 22 = some ((true, (5, 56)))) ∧ (tyT P 189 = some ((true, 5)))) := by subst hP; refine ⟨?_, ⟨?_, ?_⟩⟩ <;> kernel_rfl
theorem szPlnCellS {P : Program} [Known P] (hP : P = Tryz.prog) (l : List (VCell)) (d : List AV) (a : Int) (h1 : 0 ≤ a) (h2 : a ≤ 1048576) : Fun P 50 [.sl 5 (l.map cellS) d, .int .i64 a] (.int .i64 (szL (l.length + sumA (fun x => x.2.2.2.1.length) l) a)) := by
  refine fun_of (fn := Tryz.f50) (hP ▸ Tryz.func50) (by kernel_rfl) (by kernel_rfl) (by kernel_rfl) (by kernel_rfl) ?_
  have hT := TY_szPlnCellS hP
  have el := @szPlnCell P _ hP
  clear hP
  intro hl
  simp only [limL, limA, and_true, List.length_map] at hl
  simp only [Tryz.f50, hT, eA, Nat.beq, List.toArray, reduceAdd, reduceLT, reduceLeDiff, reduceToNat]
  unfold lim at hl
  have hl' := hl
  (try unfold lim); repeat first | ((with_reducible refine And.intro ?_ ?_); (first | omega | exact ⟨by omega, by omega⟩ | rfl)) | intro _
  unfold szL
  refine ⟨fun h => ?_, fun h => ?_⟩
  · simp only [decide_eq_true_eq] at h; rw [if_pos (by omega)]
  · simp only [decide_eq_false_iff_not] at h
    refine wpc_loop {i : Nat // i ≤ l.length ∧ 0 ≤ (a : Int) - l.length - sumT (fun x => x.2.2.2.1.length) l i} (fun i => ⟨[(0, .sl 5 (l.map cellS) d), (1, .int .i64 (a - l.length - sumT (fun x => x.2.2.2.1.length) l i.1)), (5, .int .i64 i.1)], [], 0⟩) (fun i => l.length - i.1) ⟨0, Nat.zero_le _, by simp only [sumT, List.take_zero, List.map_nil, List.sum_nil]; omega⟩ (Le.of [] (Nat.zero_le _) ?_ ?_ ?_) ?_
    · simp only [eL, eH, eG, leO, Nat.beq, reduceLT]
    · simp only [eL, eH, eG, leO, Nat.beq, reduceLT, sumT, List.take_zero, List.map_nil, List.sum_nil] <;> omega
    · simp only [eL, eH, eG, leO, Nat.beq, reduceLT]
    · rintro ⟨i, hi, hb⟩
      simp only [hT, eA, Nat.beq, List.toArray, reduceAdd, reduceLT, reduceLeDiff, reduceToNat]
      have sl := sumT_le (fun x => x.2.2.2.1.length) l i l.length hi
      refine fun _ => ⟨fun h => ?_, fun h => ?_⟩
      · simp only [decide_eq_true_eq] at h
        have hil : i < l.length := by omega
        have hg : ∀ d, (l.map cellS).getD i d = cellS (l.getD i c0) := fun d => getIn cellS l i d c0 hil
        have su := sumT_succ (fun x => x.2.2.2.1.length) l i c0 hil
        have sl2 := sumT_le (fun x => x.2.2.2.1.length) l (i + 1) l.length hil
        have ex := el (l.getD i c0) (a - l.length - sumT (fun x => x.2.2.2.1.length) l i) (by omega) (by omega)
        try simp only at su
        try simp only [cellS] at ex
        simp only [hT, hg, cellS, eA, Nat.beq, List.toArray, reduceAdd, reduceLT, reduceLeDiff, reduceToNat]
        (try unfold lim); repeat first | ((with_reducible refine And.intro ?_ ?_); (first | omega | exact ⟨by omega, by omega⟩ | rfl)) | intro _
        refine Fun.plain ex rfl rfl rfl rfl ?_
        unfold szL
        simp only [hT, eA, Nat.beq, List.toArray, reduceAdd, reduceLT, reduceLeDiff, reduceToNat]
        by_cases q : a - l.length - sumT (fun x => x.2.2.2.1.length) l i < ((l.getD i c0).2.2.2.1.length : Nat)
        · rw [if_pos q]; simp only [Int.reduceNeg, Int.reduceLT, decide_true, If_lit]
          rw [if_pos (by unfold sumA; omega)]
        · rw [if_neg q]
          simp only [decide_eq_false (show ¬ a - l.length - sumT (fun x => x.2.2.2.1.length) l i - ((l.getD i c0).2.2.2.1.length : Nat) < 0 by omega), If_lit, hT, eA, Nat.beq, List.toArray, reduceAdd, reduceLT, reduceLeDiff, reduceToNat]
          refine ⟨⟨by omega, by omega⟩, ⟨i + 1, hil, by omega⟩, by simp only; omega, Le.of [] (Nat.zero_le _) ?_ ?_ ?_⟩
          · simp only [eL, eH, eG, leO, Nat.beq, reduceLT]
          · simp only [eL, eH, eG, leO, Nat.beq, reduceLT] <;> omega
          · simp only [eL, eH, eG, leO, Nat.beq, reduceLT]
      · simp only [decide_eq_false_iff_not] at h
        obtain rfl : i = l.length := by omega
        rw [if_neg (by unfold sumA; omega)]
        unfold sumA
        omega
theorem TY_szGrdRuleS {P : Program} (hP : P = Tryz.prog) : lkT P 191 = 1 := by subst hP; kernel_rfl
theorem szGrdRuleS {P : Program} [Known P] (hP : P = Tryz.prog) (l : List (VRule)) (a : Int) (h1 : 0 ≤ a) (h2 : a ≤ 1048576) : Fun P 222 [.sl 7 (l.map ruleE) rZ, .int .i64 a] (.int .i64 (szL l.length a)) := by
  refine fun_of (fn := Tryz.f222) (hP ▸ Tryz.func222) (by kernel_rfl) (by kernel_rfl) (by kernel_rfl) (by kernel_rfl) ?_
  have hT := TY_szGrdRuleS hP
  clear hP
  intro hl
  simp only [limL, limA, and_true, List.length_map] at hl
  simp only [Tryz.f222, hT, eA, Nat.beq, List.toArray, reduceAdd, reduceLT, reduceLeDiff, reduceToNat]
  unfold lim at hl
  have hl' := hl
  (try unfold lim); repeat first | ((with_reducible refine And.intro ?_ ?_); (first | omega | exact ⟨by omega, by omega⟩ | rfl)) | intro _
  unfold szL
  refine ⟨fun h => ?_, fun h => ?_⟩
  · simp only [decide_eq_true_eq] at h; rw [if_pos (by omega)]
  · simp only [decide_eq_false_iff_not] at h; rw [if_neg (by omega)]
theorem TY_szPlnWay {P : Program} (hP : P = Tryz.prog) : (fldT P 193 4 = some ((4, (false, 1)))) ∧ (tyT P 191 = some ((false, 1))) := by subst hP; refine ⟨?_, ?_⟩ <;> kernel_rfl
theorem szPlnWay {P : Program} [Known P] (hP : P = Tryz.prog) (x : VWay) (a : Int) (h1 : 0 ≤ a) (h2 : a ≤ 1048576) : Fun P 146 [.agg (wayS x), .int .i64 a] (.int .i64 (szL (x.2.2.2.2.1.length) a)) := by
  refine fun_of (fn := Tryz.f146) (hP ▸ Tryz.func146) (by kernel_rfl) (by kernel_rfl) (by kernel_rfl) (by kernel_rfl) ?_
  have hT := TY_szPlnWay hP
  have e0 := @szGrdRuleS P _ hP
  clear hP
  intro hl
  clear hl
  simp only [wayS, Tryz.f146, hT, eA, Nat.beq, List.toArray, reduceAdd, reduceLT, reduceLeDiff, reduceToNat]
  have s0 : ∀ a, szL (x.2.2.2.2.1.length) a = if a < (x.2.2.2.2.1.length : Nat) then -1 else a - (x.2.2.2.2.1.length : Nat) := fun _ => rfl
  unfold szL
  refine Fun.plain (e0 _ a (by omega) (by omega)) rfl rfl rfl rfl ?_
  simp only [hT, eA, Nat.beq, List.toArray, reduceAdd, reduceLT, reduceLeDiff, reduceToNat]
  by_cases q0 : a < (x.2.2.2.2.1.length : Nat)
  · rw [s0, if_pos q0]; simp only [Int.reduceNeg, Int.reduceLT, decide_true, If_lit]; try rw [if_pos (by omega)]
  rw [s0, if_neg q0]
  simp only [decide_eq_false (show ¬ a - (x.2.2.2.2.1.length : Nat) < 0 by omega), If_lit, hT, eA, Nat.beq, List.toArray, reduceAdd, reduceLT, reduceLeDiff, reduceToNat]
  all_goals (first | (rw [if_neg (by omega)]; omega) | omega)
theorem TY_szPlnWayS {P : Program} (hP : P = Tryz.prog) : (lkT P 23 = 1) ∧ ((elT P 23 = some ((true, (5, 56)))) ∧ (tyT P 193 = some ((true, 5)))) := by subst hP; refine ⟨?_, ⟨?_, ?_⟩⟩ <;> kernel_rfl
theorem szPlnWayS {P : Program} [Known P] (hP : P = Tryz.prog) (l : List (VWay)) (d : List AV) (a : Int) (h1 : 0 ≤ a) (h2 : a ≤ 1048576) : Fun P 51 [.sl 5 (l.map wayS) d, .int .i64 a] (.int .i64 (szL (l.length + sumA (fun x => x.2.2.2.2.1.length) l) a)) := by
  refine fun_of (fn := Tryz.f51) (hP ▸ Tryz.func51) (by kernel_rfl) (by kernel_rfl) (by kernel_rfl) (by kernel_rfl) ?_
  have hT := TY_szPlnWayS hP
  have el := @szPlnWay P _ hP
  clear hP
  intro hl
  simp only [limL, limA, and_true, List.length_map] at hl
  simp only [Tryz.f51, hT, eA, Nat.beq, List.toArray, reduceAdd, reduceLT, reduceLeDiff, reduceToNat]
  unfold lim at hl
  have hl' := hl
  (try unfold lim); repeat first | ((with_reducible refine And.intro ?_ ?_); (first | omega | exact ⟨by omega, by omega⟩ | rfl)) | intro _
  unfold szL
  refine ⟨fun h => ?_, fun h => ?_⟩
  · simp only [decide_eq_true_eq] at h; rw [if_pos (by omega)]
  · simp only [decide_eq_false_iff_not] at h
    refine wpc_loop {i : Nat // i ≤ l.length ∧ 0 ≤ (a : Int) - l.length - sumT (fun x => x.2.2.2.2.1.length) l i} (fun i => ⟨[(0, .sl 5 (l.map wayS) d), (1, .int .i64 (a - l.length - sumT (fun x => x.2.2.2.2.1.length) l i.1)), (5, .int .i64 i.1)], [], 0⟩) (fun i => l.length - i.1) ⟨0, Nat.zero_le _, by simp only [sumT, List.take_zero, List.map_nil, List.sum_nil]; omega⟩ (Le.of [] (Nat.zero_le _) ?_ ?_ ?_) ?_
    · simp only [eL, eH, eG, leO, Nat.beq, reduceLT]
    · simp only [eL, eH, eG, leO, Nat.beq, reduceLT, sumT, List.take_zero, List.map_nil, List.sum_nil] <;> omega
    · simp only [eL, eH, eG, leO, Nat.beq, reduceLT]
    · rintro ⟨i, hi, hb⟩
      simp only [hT, eA, Nat.beq, List.toArray, reduceAdd, reduceLT, reduceLeDiff, reduceToNat]
      have sl := sumT_le (fun x => x.2.2.2.2.1.length) l i l.length hi
      refine fun _ => ⟨fun h => ?_, fun h => ?_⟩
      · simp only [decide_eq_true_eq] at h
        have hil : i < l.length := by omega
        have hg : ∀ d, (l.map wayS).getD i d = wayS (l.getD i w0) := fun d => getIn wayS l i d w0 hil
        have su := sumT_succ (fun x => x.2.2.2.2.1.length) l i w0 hil
        have sl2 := sumT_le (fun x => x.2.2.2.2.1.length) l (i + 1) l.length hil
        have ex := el (l.getD i w0) (a - l.length - sumT (fun x => x.2.2.2.2.1.length) l i) (by omega) (by omega)
        try simp only at su
        try simp only [wayS] at ex
        simp only [hT, hg, wayS, eA, Nat.beq, List.toArray, reduceAdd, reduceLT, reduceLeDiff, reduceToNat]
        (try unfold lim); repeat first | ((with_reducible refine And.intro ?_ ?_); (first | omega | exact ⟨by omega, by omega⟩ | rfl)) | intro _
        refine Fun.plain ex rfl rfl rfl rfl ?_
        unfold szL
        simp only [hT, eA, Nat.beq, List.toArray, reduceAdd, reduceLT, reduceLeDiff, reduceToNat]
        by_cases q : a - l.length - sumT (fun x => x.2.2.2.2.1.length) l i < ((l.getD i w0).2.2.2.2.1.length : Nat)
        · rw [if_pos q]; simp only [Int.reduceNeg, Int.reduceLT, decide_true, If_lit]
          rw [if_pos (by unfold sumA; omega)]
        · rw [if_neg q]
          simp only [decide_eq_false (show ¬ a - l.length - sumT (fun x => x.2.2.2.2.1.length) l i - ((l.getD i w0).2.2.2.2.1.length : Nat) < 0 by omega), If_lit, hT, eA, Nat.beq, List.toArray, reduceAdd, reduceLT, reduceLeDiff, reduceToNat]
          refine ⟨⟨by omega, by omega⟩, ⟨i + 1, hil, by omega⟩, by simp only; omega, Le.of [] (Nat.zero_le _) ?_ ?_ ?_⟩
          · simp only [eL, eH, eG, leO, Nat.beq, reduceLT]
          · simp only [eL, eH, eG, leO, Nat.beq, reduceLT] <;> omega
          · simp only [eL, eH, eG, leO, Nat.beq, reduceLT]
      · simp only [decide_eq_false_iff_not] at h
        obtain rfl : i = l.length := by omega
        rw [if_neg (by unfold sumA; omega)]
        unfold sumA
        omega
theorem TY_szPlnSlotS {P : Program} (hP : P = Tryz.prog) : lkT P 24 = 1 := by subst hP; kernel_rfl
theorem szPlnSlotS {P : Program} [Known P] (hP : P = Tryz.prog) (l : List (VSlot)) (a : Int) (h1 : 0 ≤ a) (h2 : a ≤ 1048576) : Fun P 52 [.sl 2 (l.map slotE) sZ, .int .i64 a] (.int .i64 (szL l.length a)) := by
  refine fun_of (fn := Tryz.f52) (hP ▸ Tryz.func52) (by kernel_rfl) (by kernel_rfl) (by kernel_rfl) (by kernel_rfl) ?_
  have hT := TY_szPlnSlotS hP
  clear hP
  intro hl
  simp only [limL, limA, and_true, List.length_map] at hl
  simp only [Tryz.f52, hT, eA, Nat.beq, List.toArray, reduceAdd, reduceLT, reduceLeDiff, reduceToNat]
  unfold lim at hl
  have hl' := hl
  (try unfold lim); repeat first | ((with_reducible refine And.intro ?_ ?_); (first | omega | exact ⟨by omega, by omega⟩ | rfl)) | intro _
  unfold szL
  refine ⟨fun h => ?_, fun h => ?_⟩
  · simp only [decide_eq_true_eq] at h; rw [if_pos (by omega)]
  · simp only [decide_eq_false_iff_not] at h; rw [if_neg (by omega)]
theorem TY_szIntS {P : Program} (hP : P = Tryz.prog) : lkT P 33 = 1 := by subst hP; kernel_rfl
theorem szIntS {P : Program} [Known P] (hP : P = Tryz.prog) (l : List (Int)) (a : Int) (h1 : 0 ≤ a) (h2 : a ≤ 1048576) : Fun P 147 [.sl 1 (l.map intE) iZ, .int .i64 a] (.int .i64 (szL l.length a)) := by
  refine fun_of (fn := Tryz.f147) (hP ▸ Tryz.func147) (by kernel_rfl) (by kernel_rfl) (by kernel_rfl) (by kernel_rfl) ?_
  have hT := TY_szIntS hP
  clear hP
  intro hl
  simp only [limL, limA, and_true, List.length_map] at hl
  simp only [Tryz.f147, hT, eA, Nat.beq, List.toArray, reduceAdd, reduceLT, reduceLeDiff, reduceToNat]
  unfold lim at hl
  have hl' := hl
  (try unfold lim); repeat first | ((with_reducible refine And.intro ?_ ?_); (first | omega | exact ⟨by omega, by omega⟩ | rfl)) | intro _
  unfold szL
  refine ⟨fun h => ?_, fun h => ?_⟩
  · simp only [decide_eq_true_eq] at h; rw [if_pos (by omega)]
  · simp only [decide_eq_false_iff_not] at h; rw [if_neg (by omega)]
theorem TY_szIntSS {P : Program} (hP : P = Tryz.prog) : (lkT P 25 = 1) ∧ ((elT P 25 = some ((false, (1, 24)))) ∧ (tyT P 33 = some ((false, 1)))) := by subst hP; refine ⟨?_, ⟨?_, ?_⟩⟩ <;> kernel_rfl
theorem szIntSS {P : Program} [Known P] (hP : P = Tryz.prog) (l : List (List Int)) (d : List AV) (a : Int) (h1 : 0 ≤ a) (h2 : a ≤ 1048576) : Fun P 53 [.sl 1 (l.map turnS) d, .int .i64 a] (.int .i64 (szL (l.length + sumA (fun x => x.length) l) a)) := by
  refine fun_of (fn := Tryz.f53) (hP ▸ Tryz.func53) (by kernel_rfl) (by kernel_rfl) (by kernel_rfl) (by kernel_rfl) ?_
  have hT := TY_szIntSS hP
  have el := @szIntS P _ hP
  clear hP
  intro hl
  simp only [limL, limA, and_true, List.length_map] at hl
  simp only [Tryz.f53, hT, eA, Nat.beq, List.toArray, reduceAdd, reduceLT, reduceLeDiff, reduceToNat]
  unfold lim at hl
  have hl' := hl
  (try unfold lim); repeat first | ((with_reducible refine And.intro ?_ ?_); (first | omega | exact ⟨by omega, by omega⟩ | rfl)) | intro _
  unfold szL
  refine ⟨fun h => ?_, fun h => ?_⟩
  · simp only [decide_eq_true_eq] at h; rw [if_pos (by omega)]
  · simp only [decide_eq_false_iff_not] at h
    refine wpc_loop {i : Nat // i ≤ l.length ∧ 0 ≤ (a : Int) - l.length - sumT (fun x => x.length) l i} (fun i => ⟨[(0, .sl 1 (l.map turnS) d), (1, .int .i64 (a - l.length - sumT (fun x => x.length) l i.1)), (5, .int .i64 i.1)], [], 0⟩) (fun i => l.length - i.1) ⟨0, Nat.zero_le _, by simp only [sumT, List.take_zero, List.map_nil, List.sum_nil]; omega⟩ (Le.of [] (Nat.zero_le _) ?_ ?_ ?_) ?_
    · simp only [eL, eH, eG, leO, Nat.beq, reduceLT]
    · simp only [eL, eH, eG, leO, Nat.beq, reduceLT, sumT, List.take_zero, List.map_nil, List.sum_nil] <;> omega
    · simp only [eL, eH, eG, leO, Nat.beq, reduceLT]
    · rintro ⟨i, hi, hb⟩
      simp only [hT, eA, Nat.beq, List.toArray, reduceAdd, reduceLT, reduceLeDiff, reduceToNat]
      have sl := sumT_le (fun x => x.length) l i l.length hi
      refine fun _ => ⟨fun h => ?_, fun h => ?_⟩
      · simp only [decide_eq_true_eq] at h
        have hil : i < l.length := by omega
        have hg : ∀ d, (l.map turnS).getD i d = turnS (l.getD i []) := fun d => getIn turnS l i d [] hil
        have su := sumT_succ (fun x => x.length) l i [] hil
        have sl2 := sumT_le (fun x => x.length) l (i + 1) l.length hil
        have ex := el (l.getD i []) (a - l.length - sumT (fun x => x.length) l i) (by omega) (by omega)
        try simp only at su
        try simp only [turnS] at ex
        simp only [hT, hg, turnS, eA, Nat.beq, List.toArray, reduceAdd, reduceLT, reduceLeDiff, reduceToNat]
        (try unfold lim); repeat first | ((with_reducible refine And.intro ?_ ?_); (first | omega | exact ⟨by omega, by omega⟩ | rfl)) | intro _
        refine Fun.plain ex rfl rfl rfl rfl ?_
        unfold szL
        simp only [hT, eA, Nat.beq, List.toArray, reduceAdd, reduceLT, reduceLeDiff, reduceToNat]
        by_cases q : a - l.length - sumT (fun x => x.length) l i < ((l.getD i []).length : Nat)
        · rw [if_pos q]; simp only [Int.reduceNeg, Int.reduceLT, decide_true, If_lit]
          rw [if_pos (by unfold sumA; omega)]
        · rw [if_neg q]
          simp only [decide_eq_false (show ¬ a - l.length - sumT (fun x => x.length) l i - ((l.getD i []).length : Nat) < 0 by omega), If_lit, hT, eA, Nat.beq, List.toArray, reduceAdd, reduceLT, reduceLeDiff, reduceToNat]
          refine ⟨⟨by omega, by omega⟩, ⟨i + 1, hil, by omega⟩, by simp only; omega, Le.of [] (Nat.zero_le _) ?_ ?_ ?_⟩
          · simp only [eL, eH, eG, leO, Nat.beq, reduceLT]
          · simp only [eL, eH, eG, leO, Nat.beq, reduceLT] <;> omega
          · simp only [eL, eH, eG, leO, Nat.beq, reduceLT]
      · simp only [decide_eq_false_iff_not] at h
        obtain rfl : i = l.length := by omega
        rw [if_neg (by unfold sumA; omega)]
        unfold sumA
        omega
def plnN (p : VPln) : Nat := (p.cells.length + sumA (fun x => x.2.2.2.1.length) p.cells) + (p.ways.length + sumA (fun x => x.2.2.2.2.1.length) p.ways) + p.slots.length + (p.turns.length + sumA (fun x => x.length) p.turns)
theorem Sz.of {p : VPln} (h : plnN p ≤ 1048576) : Sz p := by
  unfold plnN at h
  refine ⟨by omega, fun i hi => ?_, by omega, fun i hi => ?_, by omega, by omega, fun i hi => ?_⟩
  · have := sumA_get (fun x : VCell => x.2.2.2.1.length) p.cells i c0 hi
    try simp only at this
    omega
  · have := sumA_get (fun x : VWay => x.2.2.2.2.1.length) p.ways i w0 hi
    try simp only at this
    omega
  · have := sumA_get (fun x : List Int => x.length) p.turns i [] hi
    try simp only at this
    omega
theorem TY_szPlnPlan {P : Program} (hP : P = Tryz.prog) : (((fldT P 27 3 = some ((3, (false, 1)))) ∧ (tyT P 22 = some ((false, 1)))) ∧ ((fldT P 27 4 = some ((4, (false, 1)))) ∧ (tyT P 23 = some ((false, 1))))) ∧ (((fldT P 27 5 = some ((5, (false, 1)))) ∧ (tyT P 24 = some ((false, 1)))) ∧ ((fldT P 27 6 = some ((6, (false, 1)))) ∧ (tyT P 25 = some ((false, 1))))) := by subst hP; refine ⟨⟨⟨?_, ?_⟩, ⟨?_, ?_⟩⟩, ⟨⟨?_, ?_⟩, ⟨?_, ?_⟩⟩⟩ <;> kernel_rfl
theorem szPlnPlan {P : Program} [Known P] (hP : P = Tryz.prog) (x : VPln) (a : Int) (h1 : 0 ≤ a) (h2 : a ≤ 1048576) : Fun P 13 [.agg (plnS x), .int .i64 a] (.int .i64 (szL (x.cells.length + sumA (fun x => x.2.2.2.1.length) x.cells + x.ways.length + sumA (fun x => x.2.2.2.2.1.length) x.ways + x.slots.length + x.turns.length + sumA (fun x => x.length) x.turns) a)) := by
  refine fun_of (fn := Tryz.f13) (hP ▸ Tryz.func13) (by kernel_rfl) (by kernel_rfl) (by kernel_rfl) (by kernel_rfl) ?_
  have hT := TY_szPlnPlan hP
  have e0 := @szPlnCellS P _ hP
  have e1 := @szPlnWayS P _ hP
  have e2 := @szPlnSlotS P _ hP
  have e3 := @szIntSS P _ hP
  clear hP
  intro hl
  clear hl
  simp only [plnS, Tryz.f13, hT, eA, Nat.beq, List.toArray, reduceAdd, reduceLT, reduceLeDiff, reduceToNat]
  have s0 : ∀ a, szL (x.cells.length + sumA (fun x => x.2.2.2.1.length) x.cells) a = if a < (x.cells.length + sumA (fun x => x.2.2.2.1.length) x.cells : Nat) then -1 else a - (x.cells.length + sumA (fun x => x.2.2.2.1.length) x.cells : Nat) := fun _ => rfl
  have s1 : ∀ a, szL (x.ways.length + sumA (fun x => x.2.2.2.2.1.length) x.ways) a = if a < (x.ways.length + sumA (fun x => x.2.2.2.2.1.length) x.ways : Nat) then -1 else a - (x.ways.length + sumA (fun x => x.2.2.2.2.1.length) x.ways : Nat) := fun _ => rfl
  have s2 : ∀ a, szL (x.slots.length) a = if a < (x.slots.length : Nat) then -1 else a - (x.slots.length : Nat) := fun _ => rfl
  have s3 : ∀ a, szL (x.turns.length + sumA (fun x => x.length) x.turns) a = if a < (x.turns.length + sumA (fun x => x.length) x.turns : Nat) then -1 else a - (x.turns.length + sumA (fun x => x.length) x.turns : Nat) := fun _ => rfl
  unfold szL
  refine Fun.plain (e0 _ _ a (by omega) (by omega)) rfl rfl rfl rfl ?_
  simp only [hT, eA, Nat.beq, List.toArray, reduceAdd, reduceLT, reduceLeDiff, reduceToNat]
  by_cases q0 : a < (x.cells.length + sumA (fun x => x.2.2.2.1.length) x.cells : Nat)
  · rw [s0, if_pos q0]; simp only [Int.reduceNeg, Int.reduceLT, decide_true, If_lit]; try rw [if_pos (by omega)]
  rw [s0, if_neg q0]
  simp only [decide_eq_false (show ¬ a - (x.cells.length + sumA (fun x => x.2.2.2.1.length) x.cells : Nat) < 0 by omega), If_lit, hT, eA, Nat.beq, List.toArray, reduceAdd, reduceLT, reduceLeDiff, reduceToNat]
  refine Fun.plain (e1 _ _ (a - (x.cells.length + sumA (fun x => x.2.2.2.1.length) x.cells : Nat)) (by omega) (by omega)) rfl rfl rfl rfl ?_
  simp only [hT, eA, Nat.beq, List.toArray, reduceAdd, reduceLT, reduceLeDiff, reduceToNat]
  by_cases q1 : (a - (x.cells.length + sumA (fun x => x.2.2.2.1.length) x.cells : Nat)) < (x.ways.length + sumA (fun x => x.2.2.2.2.1.length) x.ways : Nat)
  · rw [s1, if_pos q1]; simp only [Int.reduceNeg, Int.reduceLT, decide_true, If_lit]; try rw [if_pos (by omega)]
  rw [s1, if_neg q1]
  simp only [decide_eq_false (show ¬ (a - (x.cells.length + sumA (fun x => x.2.2.2.1.length) x.cells : Nat)) - (x.ways.length + sumA (fun x => x.2.2.2.2.1.length) x.ways : Nat) < 0 by omega), If_lit, hT, eA, Nat.beq, List.toArray, reduceAdd, reduceLT, reduceLeDiff, reduceToNat]
  refine Fun.plain (e2 _ ((a - (x.cells.length + sumA (fun x => x.2.2.2.1.length) x.cells : Nat)) - (x.ways.length + sumA (fun x => x.2.2.2.2.1.length) x.ways : Nat)) (by omega) (by omega)) rfl rfl rfl rfl ?_
  simp only [hT, eA, Nat.beq, List.toArray, reduceAdd, reduceLT, reduceLeDiff, reduceToNat]
  by_cases q2 : ((a - (x.cells.length + sumA (fun x => x.2.2.2.1.length) x.cells : Nat)) - (x.ways.length + sumA (fun x => x.2.2.2.2.1.length) x.ways : Nat)) < (x.slots.length : Nat)
  · rw [s2, if_pos q2]; simp only [Int.reduceNeg, Int.reduceLT, decide_true, If_lit]; try rw [if_pos (by omega)]
  rw [s2, if_neg q2]
  simp only [decide_eq_false (show ¬ ((a - (x.cells.length + sumA (fun x => x.2.2.2.1.length) x.cells : Nat)) - (x.ways.length + sumA (fun x => x.2.2.2.2.1.length) x.ways : Nat)) - (x.slots.length : Nat) < 0 by omega), If_lit, hT, eA, Nat.beq, List.toArray, reduceAdd, reduceLT, reduceLeDiff, reduceToNat]
  refine Fun.plain (e3 _ _ (((a - (x.cells.length + sumA (fun x => x.2.2.2.1.length) x.cells : Nat)) - (x.ways.length + sumA (fun x => x.2.2.2.2.1.length) x.ways : Nat)) - (x.slots.length : Nat)) (by omega) (by omega)) rfl rfl rfl rfl ?_
  simp only [hT, eA, Nat.beq, List.toArray, reduceAdd, reduceLT, reduceLeDiff, reduceToNat]
  by_cases q3 : (((a - (x.cells.length + sumA (fun x => x.2.2.2.1.length) x.cells : Nat)) - (x.ways.length + sumA (fun x => x.2.2.2.2.1.length) x.ways : Nat)) - (x.slots.length : Nat)) < (x.turns.length + sumA (fun x => x.length) x.turns : Nat)
  · rw [s3, if_pos q3]; simp only [Int.reduceNeg, Int.reduceLT, decide_true, If_lit]; try rw [if_pos (by omega)]
  rw [s3, if_neg q3]
  simp only [decide_eq_false (show ¬ (((a - (x.cells.length + sumA (fun x => x.2.2.2.1.length) x.cells : Nat)) - (x.ways.length + sumA (fun x => x.2.2.2.2.1.length) x.ways : Nat)) - (x.slots.length : Nat)) - (x.turns.length + sumA (fun x => x.length) x.turns : Nat) < 0 by omega), If_lit, hT, eA, Nat.beq, List.toArray, reduceAdd, reduceLT, reduceLeDiff, reduceToNat]
  all_goals (first | (rw [if_neg (by omega)]; omega) | omega)
end Go.Proofs.YtjlmfcddbcoimaaGreat.C
