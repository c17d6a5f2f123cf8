/- How much a node holds. -/
import Derived.Test.YtjlmfcddbcoimaaGreatCNodA
import Derived.Test.YtjlmfcddbcoimaaGreatCPlnZ
set_option maxRecDepth 100000
set_option maxHeartbeats 4000000
set_option linter.unusedSimpArgs false
set_option linter.unusedVariables false
namespace Go.Proofs.YtjlmfcddbcoimaaGreat.C
open Go Go.Av Go.Proofs
open Nat (reduceAdd reduceLT reduceLeDiff reduceSub)
open Int (reduceToNat)
theorem TY_szByteS {P : Program} (hP : P = Tryz.prog) : lkT P 149 = 1 := by subst hP; kernel_rfl
theorem szByteS {P : Program} [Known P] (hP : P = Tryz.prog) (l : List (UInt8)) (a : Int) (h1 : 0 ≤ a) (h2 : a ≤ 1048576) : Fun P 212 [.sl 1 (l.map byt) [.int .u8 0], .int .i64 a] (.int .i64 (szL l.length a)) := by
  refine fun_of (fn := Tryz.f212) (hP ▸ Tryz.func212) (by kernel_rfl) (by kernel_rfl) (by kernel_rfl) (by kernel_rfl) ?_
  have hT := TY_szByteS hP
  clear hP
  intro hl
  simp only [limL, limA, and_true, List.length_map] at hl
  simp only [Tryz.f212, hT, eA, Nat.beq, List.toArray, reduceAdd, reduceLT, reduceLeDiff, reduceToNat]
  unfold lim at hl
  have hl' := hl
  (try unfold lim); repeat first | ((with_reducible refine And.intro ?_ ?_); (first | omega | exact ⟨by omega, by omega⟩ | rfl)) | intro _
  unfold szL
  refine ⟨fun h => ?_, fun h => ?_⟩
  · simp only [decide_eq_true_eq] at h; rw [if_pos (by omega)]
  · simp only [decide_eq_false_iff_not] at h; rw [if_neg (by omega)]
theorem TY_szByteSS {P : Program} (hP : P = Tryz.prog) : (lkT P 79 = 1) ∧ ((elT P 79 = some ((false, (1, 24)))) ∧ (tyT P 149 = some ((false, 1)))) := by subst hP; refine ⟨?_, ⟨?_, ?_⟩⟩ <;> kernel_rfl
theorem szByteSS {P : Program} [Known P] (hP : P = Tryz.prog) (l : List (List UInt8)) (d : List AV) (a : Int) (h1 : 0 ≤ a) (h2 : a ≤ 1048576) : Fun P 130 [.sl 1 (l.map msgS) d, .int .i64 a] (.int .i64 (szL (l.length + sumA (fun x => x.length) l) a)) := by
  refine fun_of (fn := Tryz.f130) (hP ▸ Tryz.func130) (by kernel_rfl) (by kernel_rfl) (by kernel_rfl) (by kernel_rfl) ?_
  have hT := TY_szByteSS hP
  have el := @szByteS P _ hP
  clear hP
  intro hl
  simp only [limL, limA, and_true, List.length_map] at hl
  simp only [Tryz.f130, hT, eA, Nat.beq, List.toArray, reduceAdd, reduceLT, reduceLeDiff, reduceToNat]
  unfold lim at hl
  have hl' := hl
  (try unfold lim); repeat first | ((with_reducible refine And.intro ?_ ?_); (first | omega | exact ⟨by omega, by omega⟩ | rfl)) | intro _
  unfold szL
  have hA0 : sumA (fun x => x.length) l = sumT (fun x => x.length) l l.length := rfl
  refine ⟨fun h => ?_, fun h => ?_⟩
  · simp only [decide_eq_true_eq] at h; rw [if_pos (by omega)]
  · simp only [decide_eq_false_iff_not] at h
    refine wpc_loop {i : Nat // i ≤ l.length ∧ 0 ≤ (a : Int) - l.length - sumT (fun x => x.length) l i} (fun i => ⟨[(0, .sl 1 (l.map msgS) d), (1, .int .i64 (a - l.length - sumT (fun x => x.length) l i.1)), (5, .int .i64 i.1)], [], 0⟩) (fun i => l.length - i.1) ⟨0, Nat.zero_le _, by simp only [sumT, List.take_zero, List.map_nil, List.sum_nil]; omega⟩ (Le.of [] (Nat.zero_le _) ?_ ?_ ?_) ?_
    · simp only [eL, eH, eG, leO, Nat.beq, reduceLT]
    · simp only [eL, eH, eG, leO, Nat.beq, reduceLT, sumT, List.take_zero, List.map_nil, List.sum_nil] <;> omega
    · simp only [eL, eH, eG, leO, Nat.beq, reduceLT]
    · rintro ⟨i, hi, hb⟩
      simp only [hT, eA, Nat.beq, List.toArray, reduceAdd, reduceLT, reduceLeDiff, reduceToNat]
      have sl := sumT_le (fun x => x.length) l i l.length hi
      refine fun _ => ⟨fun h => ?_, fun h => ?_⟩
      · simp only [decide_eq_true_eq] at h
        have hil : i < l.length := by omega
        have hg : ∀ d, (l.map msgS).getD i d = msgS (l.getD i []) := fun d => getIn msgS l i d [] hil
        have su := sumT_succ (fun x => x.length) l i [] hil
        have sl2 := sumT_le (fun x => x.length) l (i + 1) l.length hil
        have ex := el (l.getD i []) (a - l.length - sumT (fun x => x.length) l i) (by omega) (by omega)
        try simp only at su
        try simp only [msgS] at ex
        simp only [hT, hg, msgS, eA, Nat.beq, List.toArray, reduceAdd, reduceLT, reduceLeDiff, reduceToNat]
        (try unfold lim); repeat first | ((with_reducible refine And.intro ?_ ?_); (first | omega | exact ⟨by omega, by omega⟩ | rfl)) | intro _
        refine Fun.plain ex rfl rfl rfl rfl ?_
        unfold szL
        simp only [hT, eA, Nat.beq, List.toArray, reduceAdd, reduceLT, reduceLeDiff, reduceToNat]
        by_cases q : a - l.length - sumT (fun x => x.length) l i < ((l.getD i []).length : Nat)
        · rw [if_pos q]; simp only [Int.reduceNeg, Int.reduceLT, decide_true, If_lit]
          rw [if_pos (by omega)]
        · rw [if_neg q]
          simp only [decide_eq_false (show ¬ a - l.length - sumT (fun x => x.length) l i - ((l.getD i []).length : Nat) < 0 by omega), If_lit, hT, eA, Nat.beq, List.toArray, reduceAdd, reduceLT, reduceLeDiff, reduceToNat]
          refine ⟨⟨by omega, by omega⟩, ⟨i + 1, hil, by omega⟩, by simp only; omega, Le.of [] (Nat.zero_le _) ?_ ?_ ?_⟩
          · simp only [eL, eH, eG, leO, Nat.beq, reduceLT]
          · simp only [eL, eH, eG, leO, Nat.beq, reduceLT] <;> omega
          · simp only [eL, eH, eG, leO, Nat.beq, reduceLT]
      · simp only [decide_eq_false_iff_not] at h
        obtain rfl : i = l.length := by omega
        rw [if_neg (by omega)]
        omega
theorem TY_szVmState {P : Program} (hP : P = Tryz.prog) : (fldT P 225 1 = some ((1, (false, 1)))) ∧ ((tyT P 33 = some ((false, 1))) ∧ (fldT P 225 2 = some ((2, (false, 1))))) := by subst hP; refine ⟨?_, ⟨?_, ?_⟩⟩ <;> kernel_rfl
theorem szVmState {P : Program} [Known P] (hP : P = Tryz.prog) (x : VSt) (a : Int) (h1 : 0 ≤ a) (h2 : a ≤ 1048576) : Fun P 257 [.agg (stS x), .int .i64 a] (.int .i64 (szL (x.2.1.length + x.2.2.1.length) a)) := by
  refine fun_of (fn := Tryz.f257) (hP ▸ Tryz.func257) (by kernel_rfl) (by kernel_rfl) (by kernel_rfl) (by kernel_rfl) ?_
  have hT := TY_szVmState hP
  have e0 := @szIntS P _ hP
  try simp only [stS, stO, hrdS, hrdO] at e0
  have e1 := @szIntS P _ hP
  try simp only [stS, stO, hrdS, hrdO] at e1
  clear hP
  intro hl
  clear hl
  simp only [stS, Tryz.f257, hT, eA, Nat.beq, List.toArray, reduceAdd, reduceLT, reduceLeDiff, reduceToNat]
  have s0 : ∀ a, szL (x.2.1.length) a = if a < (x.2.1.length : Nat) then -1 else a - (x.2.1.length : Nat) := fun _ => rfl
  have s1 : ∀ a, szL (x.2.2.1.length) a = if a < (x.2.2.1.length : Nat) then -1 else a - (x.2.2.1.length : Nat) := fun _ => rfl
  unfold szL
  refine Fun.plain (e0 _ a (by omega) (by omega)) rfl rfl rfl rfl ?_
  simp only [hT, eA, Nat.beq, List.toArray, reduceAdd, reduceLT, reduceLeDiff, reduceToNat]
  by_cases q0 : a < (x.2.1.length : Nat)
  · rw [s0, if_pos q0]; simp only [Int.reduceNeg, Int.reduceLT, decide_true, If_lit]; try rw [if_pos (by omega)]
  rw [s0, if_neg q0]
  simp only [decide_eq_false (show ¬ a - (x.2.1.length : Nat) < 0 by omega), If_lit, hT, eA, Nat.beq, List.toArray, reduceAdd, reduceLT, reduceLeDiff, reduceToNat]
  refine Fun.plain (e1 _ (a - (x.2.1.length : Nat)) (by omega) (by omega)) rfl rfl rfl rfl ?_
  simp only [hT, eA, Nat.beq, List.toArray, reduceAdd, reduceLT, reduceLeDiff, reduceToNat]
  by_cases q1 : (a - (x.2.1.length : Nat)) < (x.2.2.1.length : Nat)
  · rw [s1, if_pos q1]; simp only [Int.reduceNeg, Int.reduceLT, decide_true, If_lit]; try rw [if_pos (by omega)]
  rw [s1, if_neg q1]
  simp only [decide_eq_false (show ¬ (a - (x.2.1.length : Nat)) - (x.2.2.1.length : Nat) < 0 by omega), If_lit, hT, eA, Nat.beq, List.toArray, reduceAdd, reduceLT, reduceLeDiff, reduceToNat]
  all_goals (first | (rw [if_neg (by omega)]; omega) | omega)
theorem TY_szCelCell {P : Program} (hP : P = Tryz.prog) : ((fldT P 227 0 = some ((0, (true, 4)))) ∧ (tyT P 225 = some ((true, 4)))) ∧ ((fldT P 227 1 = some ((4, (false, 1)))) ∧ (tyT P 149 = some ((false, 1)))) := by subst hP; refine ⟨⟨?_, ?_⟩, ⟨?_, ?_⟩⟩ <;> kernel_rfl
theorem szCelCell {P : Program} [Known P] (hP : P = Tryz.prog) (x : VCel) (a : Int) (h1 : 0 ≤ a) (h2 : a ≤ 1048576) : Fun P 176 [.agg (celS x), .int .i64 a] (.int .i64 (szL (x.1.2.1.length + x.1.2.2.1.length + x.2.1.length) a)) := by
  refine fun_of (fn := Tryz.f176) (hP ▸ Tryz.func176) (by kernel_rfl) (by kernel_rfl) (by kernel_rfl) (by kernel_rfl) ?_
  have hT := TY_szCelCell hP
  have e0 := @szVmState P _ hP
  try simp only [stS, stO, hrdS, hrdO] at e0
  have e1 := @szByteS P _ hP
  try simp only [stS, stO, hrdS, hrdO] at e1
  clear hP
  intro hl
  clear hl
  simp only [celS, Tryz.f176, hT, eA, Nat.beq, List.toArray, reduceAdd, reduceLT, reduceLeDiff, reduceToNat]
  have s0 : ∀ a, szL (x.1.2.1.length + x.1.2.2.1.length) a = if a < (x.1.2.1.length + x.1.2.2.1.length : Nat) then -1 else a - (x.1.2.1.length + x.1.2.2.1.length : Nat) := fun _ => rfl
  have s1 : ∀ a, szL (x.2.1.length) a = if a < (x.2.1.length : Nat) then -1 else a - (x.2.1.length : Nat) := fun _ => rfl
  unfold szL
  refine Fun.plain (e0 x.1 a (by omega) (by omega)) rfl rfl rfl rfl ?_
  simp only [hT, eA, Nat.beq, List.toArray, reduceAdd, reduceLT, reduceLeDiff, reduceToNat]
  by_cases q0 : a < (x.1.2.1.length + x.1.2.2.1.length : Nat)
  · rw [s0, if_pos q0]; simp only [Int.reduceNeg, Int.reduceLT, decide_true, If_lit]; try rw [if_pos (by omega)]
  rw [s0, if_neg q0]
  simp only [decide_eq_false (show ¬ a - (x.1.2.1.length + x.1.2.2.1.length : Nat) < 0 by omega), If_lit, hT, eA, Nat.beq, List.toArray, reduceAdd, reduceLT, reduceLeDiff, reduceToNat]
  refine Fun.plain (e1 _ (a - (x.1.2.1.length + x.1.2.2.1.length : Nat)) (by omega) (by omega)) rfl rfl rfl rfl ?_
  simp only [hT, eA, Nat.beq, List.toArray, reduceAdd, reduceLT, reduceLeDiff, reduceToNat]
  by_cases q1 : (a - (x.1.2.1.length + x.1.2.2.1.length : Nat)) < (x.2.1.length : Nat)
  · rw [s1, if_pos q1]; simp only [Int.reduceNeg, Int.reduceLT, decide_true, If_lit]; try rw [if_pos (by omega)]
  rw [s1, if_neg q1]
  simp only [decide_eq_false (show ¬ (a - (x.1.2.1.length + x.1.2.2.1.length : Nat)) - (x.2.1.length : Nat) < 0 by omega), If_lit, hT, eA, Nat.beq, List.toArray, reduceAdd, reduceLT, reduceLeDiff, reduceToNat]
  all_goals (first | (rw [if_neg (by omega)]; omega) | omega)
theorem TY_szCelCellS {P : Program} (hP : P = Tryz.prog) : (lkT P 50 = 1) ∧ ((elT P 50 = some ((true, (5, 88)))) ∧ (tyT P 227 = some ((true, 5)))) := by subst hP; refine ⟨?_, ⟨?_, ?_⟩⟩ <;> kernel_rfl
theorem szCelCellS {P : Program} [Known P] (hP : P = Tryz.prog) (l : List (VCel)) (d : List AV) (a : Int) (h1 : 0 ≤ a) (h2 : a ≤ 1048576) : Fun P 87 [.sl 5 (l.map celS) d, .int .i64 a] (.int .i64 (szL (l.length + sumA (fun x => x.1.2.1.length + x.1.2.2.1.length + x.2.1.length) l) a)) := by
  refine fun_of (fn := Tryz.f87) (hP ▸ Tryz.func87) (by kernel_rfl) (by kernel_rfl) (by kernel_rfl) (by kernel_rfl) ?_
  have hT := TY_szCelCellS hP
  have el := @szCelCell P _ hP
  clear hP
  intro hl
  simp only [limL, limA, and_true, List.length_map] at hl
  simp only [Tryz.f87, hT, eA, Nat.beq, List.toArray, reduceAdd, reduceLT, reduceLeDiff, reduceToNat]
  unfold lim at hl
  have hl' := hl
  (try unfold lim); repeat first | ((with_reducible refine And.intro ?_ ?_); (first | omega | exact ⟨by omega, by omega⟩ | rfl)) | intro _
  unfold szL
  have hA0 : sumA (fun x => x.1.2.1.length + x.1.2.2.1.length + x.2.1.length) l = sumT (fun x => x.1.2.1.length + x.1.2.2.1.length + x.2.1.length) l l.length := rfl
  refine ⟨fun h => ?_, fun h => ?_⟩
  · simp only [decide_eq_true_eq] at h; rw [if_pos (by omega)]
  · simp only [decide_eq_false_iff_not] at h
    refine wpc_loop {i : Nat // i ≤ l.length ∧ 0 ≤ (a : Int) - l.length - sumT (fun x => x.1.2.1.length + x.1.2.2.1.length + x.2.1.length) l i} (fun i => ⟨[(0, .sl 5 (l.map celS) d), (1, .int .i64 (a - l.length - sumT (fun x => x.1.2.1.length + x.1.2.2.1.length + x.2.1.length) l i.1)), (5, .int .i64 i.1)], [], 0⟩) (fun i => l.length - i.1) ⟨0, Nat.zero_le _, by simp only [sumT, List.take_zero, List.map_nil, List.sum_nil]; omega⟩ (Le.of [] (Nat.zero_le _) ?_ ?_ ?_) ?_
    · simp only [eL, eH, eG, leO, Nat.beq, reduceLT]
    · simp only [eL, eH, eG, leO, Nat.beq, reduceLT, sumT, List.take_zero, List.map_nil, List.sum_nil] <;> omega
    · simp only [eL, eH, eG, leO, Nat.beq, reduceLT]
    · rintro ⟨i, hi, hb⟩
      simp only [hT, eA, Nat.beq, List.toArray, reduceAdd, reduceLT, reduceLeDiff, reduceToNat]
      have sl := sumT_le (fun x => x.1.2.1.length + x.1.2.2.1.length + x.2.1.length) l i l.length hi
      refine fun _ => ⟨fun h => ?_, fun h => ?_⟩
      · simp only [decide_eq_true_eq] at h
        have hil : i < l.length := by omega
        have hg : ∀ d, (l.map celS).getD i d = celS (l.getD i cel0) := fun d => getIn celS l i d cel0 hil
        have su := sumT_succ (fun x => x.1.2.1.length + x.1.2.2.1.length + x.2.1.length) l i cel0 hil
        have sl2 := sumT_le (fun x => x.1.2.1.length + x.1.2.2.1.length + x.2.1.length) l (i + 1) l.length hil
        have ex := el (l.getD i cel0) (a - l.length - sumT (fun x => x.1.2.1.length + x.1.2.2.1.length + x.2.1.length) l i) (by omega) (by omega)
        try simp only at su
        try simp only [celS] at ex
        simp only [hT, hg, celS, eA, Nat.beq, List.toArray, reduceAdd, reduceLT, reduceLeDiff, reduceToNat]
        (try unfold lim); repeat first | ((with_reducible refine And.intro ?_ ?_); (first | omega | exact ⟨by omega, by omega⟩ | rfl)) | intro _
        refine Fun.plain ex rfl rfl rfl rfl ?_
        unfold szL
        simp only [hT, eA, Nat.beq, List.toArray, reduceAdd, reduceLT, reduceLeDiff, reduceToNat]
        by_cases q : a - l.length - sumT (fun x => x.1.2.1.length + x.1.2.2.1.length + x.2.1.length) l i < ((l.getD i cel0).1.2.1.length + (l.getD i cel0).1.2.2.1.length + (l.getD i cel0).2.1.length : Nat)
        · rw [if_pos q]; simp only [Int.reduceNeg, Int.reduceLT, decide_true, If_lit]
          rw [if_pos (by omega)]
        · rw [if_neg q]
          simp only [decide_eq_false (show ¬ a - l.length - sumT (fun x => x.1.2.1.length + x.1.2.2.1.length + x.2.1.length) l i - ((l.getD i cel0).1.2.1.length + (l.getD i cel0).1.2.2.1.length + (l.getD i cel0).2.1.length : Nat) < 0 by omega), If_lit, hT, eA, Nat.beq, List.toArray, reduceAdd, reduceLT, reduceLeDiff, reduceToNat]
          refine ⟨⟨by omega, by omega⟩, ⟨i + 1, hil, by omega⟩, by simp only; omega, Le.of [] (Nat.zero_le _) ?_ ?_ ?_⟩
          · simp only [eL, eH, eG, leO, Nat.beq, reduceLT]
          · simp only [eL, eH, eG, leO, Nat.beq, reduceLT] <;> omega
          · simp only [eL, eH, eG, leO, Nat.beq, reduceLT]
      · simp only [decide_eq_false_iff_not] at h
        obtain rfl : i = l.length := by omega
        rw [if_neg (by omega)]
        omega
theorem TY_szBoxBox {P : Program} (hP : P = Tryz.prog) : (fldT P 229 1 = some ((1, (false, 1)))) ∧ (tyT P 79 = some ((false, 1))) := by subst hP; refine ⟨?_, ?_⟩ <;> kernel_rfl
theorem szBoxBox {P : Program} [Known P] (hP : P = Tryz.prog) (x : VBox) (a : Int) (h1 : 0 ≤ a) (h2 : a ≤ 1048576) : Fun P 177 [.agg (boxS x), .int .i64 a] (.int .i64 (szL (x.2.1.length + sumA (fun x => x.length) x.2.1) a)) := by
  refine fun_of (fn := Tryz.f177) (hP ▸ Tryz.func177) (by kernel_rfl) (by kernel_rfl) (by kernel_rfl) (by kernel_rfl) ?_
  have hT := TY_szBoxBox hP
  have e0 := @szByteSS P _ hP
  try simp only [stS, stO, hrdS, hrdO] at e0
  clear hP
  intro hl
  clear hl
  simp only [boxS, Tryz.f177, hT, eA, Nat.beq, List.toArray, reduceAdd, reduceLT, reduceLeDiff, reduceToNat]
  have s0 : ∀ a, szL (x.2.1.length + sumA (fun x => x.length) x.2.1) a = if a < (x.2.1.length + sumA (fun x => x.length) x.2.1 : Nat) then -1 else a - (x.2.1.length + sumA (fun x => x.length) x.2.1 : Nat) := fun _ => rfl
  unfold szL
  refine Fun.plain (e0 _ _ a (by omega) (by omega)) rfl rfl rfl rfl ?_
  simp only [hT, eA, Nat.beq, List.toArray, reduceAdd, reduceLT, reduceLeDiff, reduceToNat]
  by_cases q0 : a < (x.2.1.length + sumA (fun x => x.length) x.2.1 : Nat)
  · rw [s0, if_pos q0]; simp only [Int.reduceNeg, Int.reduceLT, decide_true, If_lit]; try rw [if_pos (by omega)]
  rw [s0, if_neg q0]
  simp only [decide_eq_false (show ¬ a - (x.2.1.length + sumA (fun x => x.length) x.2.1 : Nat) < 0 by omega), If_lit, hT, eA, Nat.beq, List.toArray, reduceAdd, reduceLT, reduceLeDiff, reduceToNat]
  all_goals (first | (rw [if_neg (by omega)]; omega) | omega)
theorem TY_szBoxBoxS {P : Program} (hP : P = Tryz.prog) : (lkT P 51 = 1) ∧ ((elT P 51 = some ((true, (2, 32)))) ∧ (tyT P 229 = some ((true, 2)))) := by subst hP; refine ⟨?_, ⟨?_, ?_⟩⟩ <;> kernel_rfl
theorem szBoxBoxS {P : Program} [Known P] (hP : P = Tryz.prog) (l : List (VBox)) (d : List AV) (a : Int) (h1 : 0 ≤ a) (h2 : a ≤ 1048576) : Fun P 88 [.sl 2 (l.map boxS) d, .int .i64 a] (.int .i64 (szL (l.length + sumA (fun x => x.2.1.length + sumA (fun x => x.length) x.2.1) l) a)) := by
  refine fun_of (fn := Tryz.f88) (hP ▸ Tryz.func88) (by kernel_rfl) (by kernel_rfl) (by kernel_rfl) (by kernel_rfl) ?_
  have hT := TY_szBoxBoxS hP
  have el := @szBoxBox P _ hP
  clear hP
  intro hl
  simp only [limL, limA, and_true, List.length_map] at hl
  simp only [Tryz.f88, hT, eA, Nat.beq, List.toArray, reduceAdd, reduceLT, reduceLeDiff, reduceToNat]
  unfold lim at hl
  have hl' := hl
  (try unfold lim); repeat first | ((with_reducible refine And.intro ?_ ?_); (first | omega | exact ⟨by omega, by omega⟩ | rfl)) | intro _
  unfold szL
  have hA0 : sumA (fun x => x.2.1.length + sumA (fun x => x.length) x.2.1) l = sumT (fun x => x.2.1.length + sumA (fun x => x.length) x.2.1) l l.length := rfl
  refine ⟨fun h => ?_, fun h => ?_⟩
  · simp only [decide_eq_true_eq] at h; rw [if_pos (by omega)]
  · simp only [decide_eq_false_iff_not] at h
    refine wpc_loop {i : Nat // i ≤ l.length ∧ 0 ≤ (a : Int) - l.length - sumT (fun x => x.2.1.length + sumA (fun x => x.length) x.2.1) l i} (fun i => ⟨[(0, .sl 2 (l.map boxS) d), (1, .int .i64 (a - l.length - sumT (fun x => x.2.1.length + sumA (fun x => x.length) x.2.1) l i.1)), (5, .int .i64 i.1)], [], 0⟩) (fun i => l.length - i.1) ⟨0, Nat.zero_le _, by simp only [sumT, List.take_zero, List.map_nil, List.sum_nil]; omega⟩ (Le.of [] (Nat.zero_le _) ?_ ?_ ?_) ?_
    · simp only [eL, eH, eG, leO, Nat.beq, reduceLT]
    · simp only [eL, eH, eG, leO, Nat.beq, reduceLT, sumT, List.take_zero, List.map_nil, List.sum_nil] <;> omega
    · simp only [eL, eH, eG, leO, Nat.beq, reduceLT]
    · rintro ⟨i, hi, hb⟩
      simp only [hT, eA, Nat.beq, List.toArray, reduceAdd, reduceLT, reduceLeDiff, reduceToNat]
      have sl := sumT_le (fun x => x.2.1.length + sumA (fun x => x.length) x.2.1) l i l.length hi
      refine fun _ => ⟨fun h => ?_, fun h => ?_⟩
      · simp only [decide_eq_true_eq] at h
        have hil : i < l.length := by omega
        have hg : ∀ d, (l.map boxS).getD i d = boxS (l.getD i box0) := fun d => getIn boxS l i d box0 hil
        have su := sumT_succ (fun x => x.2.1.length + sumA (fun x => x.length) x.2.1) l i box0 hil
        have sl2 := sumT_le (fun x => x.2.1.length + sumA (fun x => x.length) x.2.1) l (i + 1) l.length hil
        have ex := el (l.getD i box0) (a - l.length - sumT (fun x => x.2.1.length + sumA (fun x => x.length) x.2.1) l i) (by omega) (by omega)
        try simp only at su
        try simp only [boxS] at ex
        simp only [hT, hg, boxS, eA, Nat.beq, List.toArray, reduceAdd, reduceLT, reduceLeDiff, reduceToNat]
        (try unfold lim); repeat first | ((with_reducible refine And.intro ?_ ?_); (first | omega | exact ⟨by omega, by omega⟩ | rfl)) | intro _
        refine Fun.plain ex rfl rfl rfl rfl ?_
        unfold szL
        simp only [hT, eA, Nat.beq, List.toArray, reduceAdd, reduceLT, reduceLeDiff, reduceToNat]
        by_cases q : a - l.length - sumT (fun x => x.2.1.length + sumA (fun x => x.length) x.2.1) l i < ((l.getD i box0).2.1.length + sumA (fun x => x.length) (l.getD i box0).2.1 : Nat)
        · rw [if_pos q]; simp only [Int.reduceNeg, Int.reduceLT, decide_true, If_lit]
          rw [if_pos (by omega)]
        · rw [if_neg q]
          simp only [decide_eq_false (show ¬ a - l.length - sumT (fun x => x.2.1.length + sumA (fun x => x.length) x.2.1) l i - ((l.getD i box0).2.1.length + sumA (fun x => x.length) (l.getD i box0).2.1 : Nat) < 0 by omega), If_lit, hT, eA, Nat.beq, List.toArray, reduceAdd, reduceLT, reduceLeDiff, reduceToNat]
          refine ⟨⟨by omega, by omega⟩, ⟨i + 1, hil, by omega⟩, by simp only; omega, Le.of [] (Nat.zero_le _) ?_ ?_ ?_⟩
          · simp only [eL, eH, eG, leO, Nat.beq, reduceLT]
          · simp only [eL, eH, eG, leO, Nat.beq, reduceLT] <;> omega
          · simp only [eL, eH, eG, leO, Nat.beq, reduceLT]
      · simp only [decide_eq_false_iff_not] at h
        obtain rfl : i = l.length := by omega
        rw [if_neg (by omega)]
        omega
theorem TY_szOutOutS {P : Program} (hP : P = Tryz.prog) : lkT P 52 = 1 := by subst hP; kernel_rfl
theorem szOutOutS {P : Program} [Known P] (hP : P = Tryz.prog) (l : List (VOut)) (a : Int) (h1 : 0 ≤ a) (h2 : a ≤ 1048576) : Fun P 89 [.sl 4 (l.map outE) outZ, .int .i64 a] (.int .i64 (szL l.length a)) := by
  refine fun_of (fn := Tryz.f89) (hP ▸ Tryz.func89) (by kernel_rfl) (by kernel_rfl) (by kernel_rfl) (by kernel_rfl) ?_
  have hT := TY_szOutOutS hP
  clear hP
  intro hl
  simp only [limL, limA, and_true, List.length_map] at hl
  simp only [Tryz.f89, hT, eA, Nat.beq, List.toArray, reduceAdd, reduceLT, reduceLeDiff, reduceToNat]
  unfold lim at hl
  have hl' := hl
  (try unfold lim); repeat first | ((with_reducible refine And.intro ?_ ?_); (first | omega | exact ⟨by omega, by omega⟩ | rfl)) | intro _
  unfold szL
  refine ⟨fun h => ?_, fun h => ?_⟩
  · simp only [decide_eq_true_eq] at h; rw [if_pos (by omega)]
  · simp only [decide_eq_false_iff_not] at h; rw [if_neg (by omega)]
theorem TY_szInInS {P : Program} (hP : P = Tryz.prog) : lkT P 53 = 1 := by subst hP; kernel_rfl
theorem szInInS {P : Program} [Known P] (hP : P = Tryz.prog) (l : List (VInn)) (a : Int) (h1 : 0 ≤ a) (h2 : a ≤ 1048576) : Fun P 90 [.sl 3 (l.map innE) innZ, .int .i64 a] (.int .i64 (szL l.length a)) := by
  refine fun_of (fn := Tryz.f90) (hP ▸ Tryz.func90) (by kernel_rfl) (by kernel_rfl) (by kernel_rfl) (by kernel_rfl) ?_
  have hT := TY_szInInS hP
  clear hP
  intro hl
  simp only [limL, limA, and_true, List.length_map] at hl
  simp only [Tryz.f90, hT, eA, Nat.beq, List.toArray, reduceAdd, reduceLT, reduceLeDiff, reduceToNat]
  unfold lim at hl
  have hl' := hl
  (try unfold lim); repeat first | ((with_reducible refine And.intro ?_ ?_); (first | omega | exact ⟨by omega, by omega⟩ | rfl)) | intro _
  unfold szL
  refine ⟨fun h => ?_, fun h => ?_⟩
  · simp only [decide_eq_true_eq] at h; rw [if_pos (by omega)]
  · simp only [decide_eq_false_iff_not] at h; rw [if_neg (by omega)]
theorem TY_szHrdBook {P : Program} (hP : P = Tryz.prog) : (fldT P 54 0 = some ((0, (false, 1)))) ∧ ((tyT P 33 = some ((false, 1))) ∧ (fldT P 54 1 = some ((1, (false, 1))))) := by subst hP; refine ⟨?_, ⟨?_, ?_⟩⟩ <;> kernel_rfl
theorem szHrdBook {P : Program} [Known P] (hP : P = Tryz.prog) (x : VHrd) (a : Int) (h1 : 0 ≤ a) (h2 : a ≤ 1048576) : Fun P 91 [.agg (hrdS x), .int .i64 a] (.int .i64 (szL (x.1.length + x.2.1.length) a)) := by
  refine fun_of (fn := Tryz.f91) (hP ▸ Tryz.func91) (by kernel_rfl) (by kernel_rfl) (by kernel_rfl) (by kernel_rfl) ?_
  have hT := TY_szHrdBook hP
  have e0 := @szIntS P _ hP
  try simp only [stS, stO, hrdS, hrdO] at e0
  have e1 := @szIntS P _ hP
  try simp only [stS, stO, hrdS, hrdO] at e1
  clear hP
  intro hl
  clear hl
  simp only [hrdS, Tryz.f91, hT, eA, Nat.beq, List.toArray, reduceAdd, reduceLT, reduceLeDiff, reduceToNat]
  have s0 : ∀ a, szL (x.1.length) a = if a < (x.1.length : Nat) then -1 else a - (x.1.length : Nat) := fun _ => rfl
  have s1 : ∀ a, szL (x.2.1.length) a = if a < (x.2.1.length : Nat) then -1 else a - (x.2.1.length : Nat) := fun _ => rfl
  unfold szL
  refine Fun.plain (e0 _ a (by omega) (by omega)) rfl rfl rfl rfl ?_
  simp only [hT, eA, Nat.beq, List.toArray, reduceAdd, reduceLT, reduceLeDiff, reduceToNat]
  by_cases q0 : a < (x.1.length : Nat)
  · rw [s0, if_pos q0]; simp only [Int.reduceNeg, Int.reduceLT, decide_true, If_lit]; try rw [if_pos (by omega)]
  rw [s0, if_neg q0]
  simp only [decide_eq_false (show ¬ a - (x.1.length : Nat) < 0 by omega), If_lit, hT, eA, Nat.beq, List.toArray, reduceAdd, reduceLT, reduceLeDiff, reduceToNat]
  refine Fun.plain (e1 _ (a - (x.1.length : Nat)) (by omega) (by omega)) rfl rfl rfl rfl ?_
  simp only [hT, eA, Nat.beq, List.toArray, reduceAdd, reduceLT, reduceLeDiff, reduceToNat]
  by_cases q1 : (a - (x.1.length : Nat)) < (x.2.1.length : Nat)
  · rw [s1, if_pos q1]; simp only [Int.reduceNeg, Int.reduceLT, decide_true, If_lit]; try rw [if_pos (by omega)]
  rw [s1, if_neg q1]
  simp only [decide_eq_false (show ¬ (a - (x.1.length : Nat)) - (x.2.1.length : Nat) < 0 by omega), If_lit, hT, eA, Nat.beq, List.toArray, reduceAdd, reduceLT, reduceLeDiff, reduceToNat]
  all_goals (first | (rw [if_neg (by omega)]; omega) | omega)
def nodN (n : VNod) : Nat := (n.cells.length + sumA (fun x => x.1.2.1.length + x.1.2.2.1.length + x.2.1.length) n.cells) + (n.out.length + sumA (fun x => x.2.1.length + sumA (fun x => x.length) x.2.1) n.out) + (n.inn.length + sumA (fun x => x.2.1.length + sumA (fun x => x.length) x.2.1) n.inn) + (n.outs.length) + (n.inns.length) + (n.heard.1.length + n.heard.2.1.length)
theorem SzN.of {n : VNod} (h : nodN n ≤ 1048576) : SzN n := by
  unfold nodN at h
  refine ⟨by omega, fun i hi => ?_, fun i hi => ?_, by omega, fun i hi => ?_, by omega, fun i hi => ?_, by omega, by omega, by omega, by omega⟩
  · have := sumA_get (fun x : VCel => x.1.2.1.length + x.1.2.2.1.length + x.2.1.length) n.cells i cel0 hi
    try simp only at this
    omega
  · have := sumA_get (fun x : VCel => x.1.2.1.length + x.1.2.2.1.length + x.2.1.length) n.cells i cel0 hi
    try simp only at this
    omega
  · have := sumA_get (fun x : VBox => x.2.1.length + sumA (fun x => x.length) x.2.1) n.out i box0 hi
    try simp only at this
    omega
  · have := sumA_get (fun x : VBox => x.2.1.length + sumA (fun x => x.length) x.2.1) n.inn i box0 hi
    try simp only at this
    omega
theorem TY_szNodNode {P : Program} (hP : P = Tryz.prog) : (((fldT P 56 3 = some ((3, (false, 1)))) ∧ (tyT P 50 = some ((false, 1)))) ∧ ((fldT P 56 4 = some ((4, (false, 1)))) ∧ ((tyT P 51 = some ((false, 1))) ∧ (fldT P 56 5 = some ((5, (false, 1))))))) ∧ (((fldT P 56 6 = some ((6, (false, 1)))) ∧ ((tyT P 52 = some ((false, 1))) ∧ (fldT P 56 7 = some ((7, (false, 1)))))) ∧ ((tyT P 53 = some ((false, 1))) ∧ ((fldT P 56 8 = some ((8, (true, 2)))) ∧ (tyT P 54 = some ((true, 2)))))) := by subst hP; refine ⟨⟨⟨?_, ?_⟩, ⟨?_, ⟨?_, ?_⟩⟩⟩, ⟨⟨?_, ⟨?_, ?_⟩⟩, ⟨?_, ⟨?_, ?_⟩⟩⟩⟩ <;> kernel_rfl
theorem szNodNode {P : Program} [Known P] (hP : P = Tryz.prog) (x : VNod) (a : Int) (h1 : 0 ≤ a) (h2 : a ≤ 1048576) : Fun P 22 [.agg (nodS x), .int .i64 a] (.int .i64 (szL (x.cells.length + sumA (fun x => x.1.2.1.length + x.1.2.2.1.length + x.2.1.length) x.cells + x.out.length + sumA (fun x => x.2.1.length + sumA (fun x => x.length) x.2.1) x.out + x.inn.length + sumA (fun x => x.2.1.length + sumA (fun x => x.length) x.2.1) x.inn + x.outs.length + x.inns.length + x.heard.1.length + x.heard.2.1.length) a)) := by
  refine fun_of (fn := Tryz.f22) (hP ▸ Tryz.func22) (by kernel_rfl) (by kernel_rfl) (by kernel_rfl) (by kernel_rfl) ?_
  have hT := TY_szNodNode hP
  have e0 := @szCelCellS P _ hP
  try simp only [stS, stO, hrdS, hrdO] at e0
  have e1 := @szBoxBoxS P _ hP
  try simp only [stS, stO, hrdS, hrdO] at e1
  have e2 := @szBoxBoxS P _ hP
  try simp only [stS, stO, hrdS, hrdO] at e2
  have e3 := @szOutOutS P _ hP
  try simp only [stS, stO, hrdS, hrdO] at e3
  have e4 := @szInInS P _ hP
  try simp only [stS, stO, hrdS, hrdO] at e4
  have e5 := @szHrdBook P _ hP
  try simp only [stS, stO, hrdS, hrdO] at e5
  clear hP
  intro hl
  clear hl
  simp only [nodS, Tryz.f22, hT, eA, Nat.beq, List.toArray, reduceAdd, reduceLT, reduceLeDiff, reduceToNat]
  have s0 : ∀ a, szL (x.cells.length + sumA (fun x => x.1.2.1.length + x.1.2.2.1.length + x.2.1.length) x.cells) a = if a < (x.cells.length + sumA (fun x => x.1.2.1.length + x.1.2.2.1.length + x.2.1.length) x.cells : Nat) then -1 else a - (x.cells.length + sumA (fun x => x.1.2.1.length + x.1.2.2.1.length + x.2.1.length) x.cells : Nat) := fun _ => rfl
  have s1 : ∀ a, szL (x.out.length + sumA (fun x => x.2.1.length + sumA (fun x => x.length) x.2.1) x.out) a = if a < (x.out.length + sumA (fun x => x.2.1.length + sumA (fun x => x.length) x.2.1) x.out : Nat) then -1 else a - (x.out.length + sumA (fun x => x.2.1.length + sumA (fun x => x.length) x.2.1) x.out : Nat) := fun _ => rfl
  have s2 : ∀ a, szL (x.inn.length + sumA (fun x => x.2.1.length + sumA (fun x => x.length) x.2.1) x.inn) a = if a < (x.inn.length + sumA (fun x => x.2.1.length + sumA (fun x => x.length) x.2.1) x.inn : Nat) then -1 else a - (x.inn.length + sumA (fun x => x.2.1.length + sumA (fun x => x.length) x.2.1) x.inn : Nat) := fun _ => rfl
  have s3 : ∀ a, szL (x.outs.length) a = if a < (x.outs.length : Nat) then -1 else a - (x.outs.length : Nat) := fun _ => rfl
  have s4 : ∀ a, szL (x.inns.length) a = if a < (x.inns.length : Nat) then -1 else a - (x.inns.length : Nat) := fun _ => rfl
  have s5 : ∀ a, szL (x.heard.1.length + x.heard.2.1.length) a = if a < (x.heard.1.length + x.heard.2.1.length : Nat) then -1 else a - (x.heard.1.length + x.heard.2.1.length : Nat) := fun _ => rfl
  unfold szL
  refine Fun.plain (e0 _ _ a (by omega) (by omega)) rfl rfl rfl rfl ?_
  simp only [hT, eA, Nat.beq, List.toArray, reduceAdd, reduceLT, reduceLeDiff, reduceToNat]
  by_cases q0 : a < (x.cells.length + sumA (fun x => x.1.2.1.length + x.1.2.2.1.length + x.2.1.length) x.cells : Nat)
  · rw [s0, if_pos q0]; simp only [Int.reduceNeg, Int.reduceLT, decide_true, If_lit]; try rw [if_pos (by omega)]
  rw [s0, if_neg q0]
  simp only [decide_eq_false (show ¬ a - (x.cells.length + sumA (fun x => x.1.2.1.length + x.1.2.2.1.length + x.2.1.length) x.cells : Nat) < 0 by omega), If_lit, hT, eA, Nat.beq, List.toArray, reduceAdd, reduceLT, reduceLeDiff, reduceToNat]
  refine Fun.plain (e1 _ _ (a - (x.cells.length + sumA (fun x => x.1.2.1.length + x.1.2.2.1.length + x.2.1.length) x.cells : Nat)) (by omega) (by omega)) rfl rfl rfl rfl ?_
  simp only [hT, eA, Nat.beq, List.toArray, reduceAdd, reduceLT, reduceLeDiff, reduceToNat]
  by_cases q1 : (a - (x.cells.length + sumA (fun x => x.1.2.1.length + x.1.2.2.1.length + x.2.1.length) x.cells : Nat)) < (x.out.length + sumA (fun x => x.2.1.length + sumA (fun x => x.length) x.2.1) x.out : Nat)
  · rw [s1, if_pos q1]; simp only [Int.reduceNeg, Int.reduceLT, decide_true, If_lit]; try rw [if_pos (by omega)]
  rw [s1, if_neg q1]
  simp only [decide_eq_false (show ¬ (a - (x.cells.length + sumA (fun x => x.1.2.1.length + x.1.2.2.1.length + x.2.1.length) x.cells : Nat)) - (x.out.length + sumA (fun x => x.2.1.length + sumA (fun x => x.length) x.2.1) x.out : Nat) < 0 by omega), If_lit, hT, eA, Nat.beq, List.toArray, reduceAdd, reduceLT, reduceLeDiff, reduceToNat]
  refine Fun.plain (e2 _ _ ((a - (x.cells.length + sumA (fun x => x.1.2.1.length + x.1.2.2.1.length + x.2.1.length) x.cells : Nat)) - (x.out.length + sumA (fun x => x.2.1.length + sumA (fun x => x.length) x.2.1) x.out : Nat)) (by omega) (by omega)) rfl rfl rfl rfl ?_
  simp only [hT, eA, Nat.beq, List.toArray, reduceAdd, reduceLT, reduceLeDiff, reduceToNat]
  by_cases q2 : ((a - (x.cells.length + sumA (fun x => x.1.2.1.length + x.1.2.2.1.length + x.2.1.length) x.cells : Nat)) - (x.out.length + sumA (fun x => x.2.1.length + sumA (fun x => x.length) x.2.1) x.out : Nat)) < (x.inn.length + sumA (fun x => x.2.1.length + sumA (fun x => x.length) x.2.1) x.inn : Nat)
  · rw [s2, if_pos q2]; simp only [Int.reduceNeg, Int.reduceLT, decide_true, If_lit]; try rw [if_pos (by omega)]
  rw [s2, if_neg q2]
  simp only [decide_eq_false (show ¬ ((a - (x.cells.length + sumA (fun x => x.1.2.1.length + x.1.2.2.1.length + x.2.1.length) x.cells : Nat)) - (x.out.length + sumA (fun x => x.2.1.length + sumA (fun x => x.length) x.2.1) x.out : Nat)) - (x.inn.length + sumA (fun x => x.2.1.length + sumA (fun x => x.length) x.2.1) x.inn : Nat) < 0 by omega), If_lit, hT, eA, Nat.beq, List.toArray, reduceAdd, reduceLT, reduceLeDiff, reduceToNat]
  refine Fun.plain (e3 _ (((a - (x.cells.length + sumA (fun x => x.1.2.1.length + x.1.2.2.1.length + x.2.1.length) x.cells : Nat)) - (x.out.length + sumA (fun x => x.2.1.length + sumA (fun x => x.length) x.2.1) x.out : Nat)) - (x.inn.length + sumA (fun x => x.2.1.length + sumA (fun x => x.length) x.2.1) x.inn : Nat)) (by omega) (by omega)) rfl rfl rfl rfl ?_
  simp only [hT, eA, Nat.beq, List.toArray, reduceAdd, reduceLT, reduceLeDiff, reduceToNat]
  by_cases q3 : (((a - (x.cells.length + sumA (fun x => x.1.2.1.length + x.1.2.2.1.length + x.2.1.length) x.cells : Nat)) - (x.out.length + sumA (fun x => x.2.1.length + sumA (fun x => x.length) x.2.1) x.out : Nat)) - (x.inn.length + sumA (fun x => x.2.1.length + sumA (fun x => x.length) x.2.1) x.inn : Nat)) < (x.outs.length : Nat)
  · rw [s3, if_pos q3]; simp only [Int.reduceNeg, Int.reduceLT, decide_true, If_lit]; try rw [if_pos (by omega)]
  rw [s3, if_neg q3]
  simp only [decide_eq_false (show ¬ (((a - (x.cells.length + sumA (fun x => x.1.2.1.length + x.1.2.2.1.length + x.2.1.length) x.cells : Nat)) - (x.out.length + sumA (fun x => x.2.1.length + sumA (fun x => x.length) x.2.1) x.out : Nat)) - (x.inn.length + sumA (fun x => x.2.1.length + sumA (fun x => x.length) x.2.1) x.inn : Nat)) - (x.outs.length : Nat) < 0 by omega), If_lit, hT, eA, Nat.beq, List.toArray, reduceAdd, reduceLT, reduceLeDiff, reduceToNat]
  refine Fun.plain (e4 _ ((((a - (x.cells.length + sumA (fun x => x.1.2.1.length + x.1.2.2.1.length + x.2.1.length) x.cells : Nat)) - (x.out.length + sumA (fun x => x.2.1.length + sumA (fun x => x.length) x.2.1) x.out : Nat)) - (x.inn.length + sumA (fun x => x.2.1.length + sumA (fun x => x.length) x.2.1) x.inn : Nat)) - (x.outs.length : Nat)) (by omega) (by omega)) rfl rfl rfl rfl ?_
  simp only [hT, eA, Nat.beq, List.toArray, reduceAdd, reduceLT, reduceLeDiff, reduceToNat]
  by_cases q4 : ((((a - (x.cells.length + sumA (fun x => x.1.2.1.length + x.1.2.2.1.length + x.2.1.length) x.cells : Nat)) - (x.out.length + sumA (fun x => x.2.1.length + sumA (fun x => x.length) x.2.1) x.out : Nat)) - (x.inn.length + sumA (fun x => x.2.1.length + sumA (fun x => x.length) x.2.1) x.inn : Nat)) - (x.outs.length : Nat)) < (x.inns.length : Nat)
  · rw [s4, if_pos q4]; simp only [Int.reduceNeg, Int.reduceLT, decide_true, If_lit]; try rw [if_pos (by omega)]
  rw [s4, if_neg q4]
  simp only [decide_eq_false (show ¬ ((((a - (x.cells.length + sumA (fun x => x.1.2.1.length + x.1.2.2.1.length + x.2.1.length) x.cells : Nat)) - (x.out.length + sumA (fun x => x.2.1.length + sumA (fun x => x.length) x.2.1) x.out : Nat)) - (x.inn.length + sumA (fun x => x.2.1.length + sumA (fun x => x.length) x.2.1) x.inn : Nat)) - (x.outs.length : Nat)) - (x.inns.length : Nat) < 0 by omega), If_lit, hT, eA, Nat.beq, List.toArray, reduceAdd, reduceLT, reduceLeDiff, reduceToNat]
  refine Fun.plain (e5 x.heard (((((a - (x.cells.length + sumA (fun x => x.1.2.1.length + x.1.2.2.1.length + x.2.1.length) x.cells : Nat)) - (x.out.length + sumA (fun x => x.2.1.length + sumA (fun x => x.length) x.2.1) x.out : Nat)) - (x.inn.length + sumA (fun x => x.2.1.length + sumA (fun x => x.length) x.2.1) x.inn : Nat)) - (x.outs.length : Nat)) - (x.inns.length : Nat)) (by omega) (by omega)) rfl rfl rfl rfl ?_
  simp only [hT, eA, Nat.beq, List.toArray, reduceAdd, reduceLT, reduceLeDiff, reduceToNat]
  by_cases q5 : (((((a - (x.cells.length + sumA (fun x => x.1.2.1.length + x.1.2.2.1.length + x.2.1.length) x.cells : Nat)) - (x.out.length + sumA (fun x => x.2.1.length + sumA (fun x => x.length) x.2.1) x.out : Nat)) - (x.inn.length + sumA (fun x => x.2.1.length + sumA (fun x => x.length) x.2.1) x.inn : Nat)) - (x.outs.length : Nat)) - (x.inns.length : Nat)) < (x.heard.1.length + x.heard.2.1.length : Nat)
  · rw [s5, if_pos q5]; simp only [Int.reduceNeg, Int.reduceLT, decide_true, If_lit]; try rw [if_pos (by omega)]
  rw [s5, if_neg q5]
  simp only [decide_eq_false (show ¬ (((((a - (x.cells.length + sumA (fun x => x.1.2.1.length + x.1.2.2.1.length + x.2.1.length) x.cells : Nat)) - (x.out.length + sumA (fun x => x.2.1.length + sumA (fun x => x.length) x.2.1) x.out : Nat)) - (x.inn.length + sumA (fun x => x.2.1.length + sumA (fun x => x.length) x.2.1) x.inn : Nat)) - (x.outs.length : Nat)) - (x.inns.length : Nat)) - (x.heard.1.length + x.heard.2.1.length : Nat) < 0 by omega), If_lit, hT, eA, Nat.beq, List.toArray, reduceAdd, reduceLT, reduceLeDiff, reduceToNat]
  all_goals (first | (rw [if_neg (by omega)]; omega) | omega)
end Go.Proofs.YtjlmfcddbcoimaaGreat.C
