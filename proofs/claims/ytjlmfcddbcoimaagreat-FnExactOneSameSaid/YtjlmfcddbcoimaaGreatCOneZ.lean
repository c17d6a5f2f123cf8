/- How much the one machine and a world hold. -/
import Derived.Test.YtjlmfcddbcoimaaGreatCOneA
import Derived.Test.YtjlmfcddbcoimaaGreatCNodZ
set_option maxRecDepth 100000
set_option maxHeartbeats 4000000
set_option linter.unusedSimpArgs false
set_option linter.unusedVariables false
namespace Go.Proofs.YtjlmfcddbcoimaaGreat.C
open Go Go.Av Go.Proofs
theorem TY_szBoolS {P : Program} (hP : P = Tryz.prog) : lkT P 64 = 1 := by subst hP; kernel_rfl
theorem szBoolS {P : Program} [Known P] (hP : P = Tryz.prog) (l : List (Bool)) (a : Int) (h1 : 0 ≤ a) (h2 : a ≤ 1048576) : Fun P 104 [.sl 1 (l.map bE) bZ, .int .i64 a] (.int .i64 (szL l.length a)) := by
  refine fun_of (fn := Tryz.f104) (hP ▸ Tryz.func104) (by kernel_rfl) (by kernel_rfl) (by kernel_rfl) (by kernel_rfl) ?_
  have hT := TY_szBoolS hP
  clear hP
  intro hl
  simp only [limL, limA, and_true, List.length_map] at hl
  simp only [Tryz.f104, hT, eA, Nat.beq, List.toArray, Nat.reduceAdd, Nat.reduceLT, Nat.reduceLeDiff, Int.reduceToNat]
  unfold lim at hl
  have hl' := hl
  (try unfold lim); repeat first | ((with_reducible refine And.intro ?_ ?_); (first | omega | exact ⟨by omega, by omega⟩ | rfl)) | intro _
  unfold szL
  refine ⟨fun h => ?_, fun h => ?_⟩
  · simp only [decide_eq_true_eq] at h; rw [if_pos (by omega)]
  · simp only [decide_eq_false_iff_not] at h; rw [if_neg (by omega)]
theorem TY_szCelSight {P : Program} (hP : P = Tryz.prog) : (fldT P 286 2 = some ((2, (false, 1)))) ∧ (tyT P 149 = some ((false, 1))) := by subst hP; refine ⟨?_, ?_⟩ <;> kernel_rfl
theorem szCelSight {P : Program} [Known P] (hP : P = Tryz.prog) (x : VSig) (a : Int) (h1 : 0 ≤ a) (h2 : a ≤ 1048576) : Fun P 268 [.agg (sigS x), .int .i64 a] (.int .i64 (szL (x.2.2.1.length) a)) := by
  refine fun_of (fn := Tryz.f268) (hP ▸ Tryz.func268) (by kernel_rfl) (by kernel_rfl) (by kernel_rfl) (by kernel_rfl) ?_
  have hT := TY_szCelSight hP
  have e0 := @szByteS P _ hP
  try simp only [stS, stO, hrdS, hrdO, plnS, plnO, nodS, nodO] at e0
  clear hP
  intro hl
  clear hl
  simp only [sigS, Tryz.f268, hT, eA, Nat.beq, List.toArray, Nat.reduceAdd, Nat.reduceLT, Nat.reduceLeDiff, Int.reduceToNat]
  have s0 : ∀ a, szL (x.2.2.1.length) a = if a < (x.2.2.1.length : Nat) then -1 else a - (x.2.2.1.length : Nat) := fun _ => rfl
  unfold szL
  refine Fun.plain (e0 _ a (by omega) (by omega)) rfl rfl rfl rfl ?_
  simp only [hT, eA, Nat.beq, List.toArray, Nat.reduceAdd, Nat.reduceLT, Nat.reduceLeDiff, Int.reduceToNat]
  by_cases q0 : a < (x.2.2.1.length : Nat)
  · rw [s0, if_pos q0]; simp only [Int.reduceNeg, Int.reduceLT, decide_true, If_lit]; try rw [if_pos (by omega)]
  rw [s0, if_neg q0]
  simp only [decide_eq_false (show ¬ a - (x.2.2.1.length : Nat) < 0 by omega), If_lit, hT, eA, Nat.beq, List.toArray, Nat.reduceAdd, Nat.reduceLT, Nat.reduceLeDiff, Int.reduceToNat]
  all_goals (first | (rw [if_neg (by omega)]; omega) | omega)
theorem TY_szCelSightS {P : Program} (hP : P = Tryz.prog) : (lkT P 245 = 1) ∧ ((elT P 245 = some ((true, (3, 40)))) ∧ (tyT P 286 = some ((true, 3)))) := by subst hP; refine ⟨?_, ⟨?_, ?_⟩⟩ <;> kernel_rfl
theorem szCelSightS {P : Program} [Known P] (hP : P = Tryz.prog) (l : List (VSig)) (d : List AV) (a : Int) (h1 : 0 ≤ a) (h2 : a ≤ 1048576) : Fun P 196 [.sl 3 (l.map sigS) d, .int .i64 a] (.int .i64 (szL (l.length + sumA (fun x => x.2.2.1.length) l) a)) := by
  refine fun_of (fn := Tryz.f196) (hP ▸ Tryz.func196) (by kernel_rfl) (by kernel_rfl) (by kernel_rfl) (by kernel_rfl) ?_
  have hT := TY_szCelSightS hP
  have el := @szCelSight P _ hP
  clear hP
  intro hl
  simp only [limL, limA, and_true, List.length_map] at hl
  simp only [Tryz.f196, hT, eA, Nat.beq, List.toArray, Nat.reduceAdd, Nat.reduceLT, Nat.reduceLeDiff, Int.reduceToNat]
  unfold lim at hl
  have hl' := hl
  (try unfold lim); repeat first | ((with_reducible refine And.intro ?_ ?_); (first | omega | exact ⟨by omega, by omega⟩ | rfl)) | intro _
  unfold szL
  have hA0 : sumA (fun x => x.2.2.1.length) l = sumT (fun x => x.2.2.1.length) l l.length := rfl
  refine ⟨fun h => ?_, fun h => ?_⟩
  · simp only [decide_eq_true_eq] at h; rw [if_pos (by omega)]
  · simp only [decide_eq_false_iff_not] at h
    refine wpc_loop {i : Nat // i ≤ l.length ∧ 0 ≤ (a : Int) - l.length - sumT (fun x => x.2.2.1.length) l i} (fun i => ⟨[(0, .sl 3 (l.map sigS) d), (1, .int .i64 (a - l.length - sumT (fun x => x.2.2.1.length) l i.1)), (5, .int .i64 i.1)], [], 0⟩) (fun i => l.length - i.1) ⟨0, Nat.zero_le _, by simp only [sumT, List.take_zero, List.map_nil, List.sum_nil]; omega⟩ (Le.of [] (Nat.zero_le _) ?_ ?_ ?_) ?_
    · simp only [eL, eH, eG, leO, Nat.beq, Nat.reduceLT]
    · simp only [eL, eH, eG, leO, Nat.beq, Nat.reduceLT, sumT, List.take_zero, List.map_nil, List.sum_nil] <;> omega
    · simp only [eL, eH, eG, leO, Nat.beq, Nat.reduceLT]
    · rintro ⟨i, hi, hb⟩
      simp only [hT, eA, Nat.beq, List.toArray, Nat.reduceAdd, Nat.reduceLT, Nat.reduceLeDiff, Int.reduceToNat]
      have sl := sumT_le (fun x => x.2.2.1.length) l i l.length hi
      refine fun _ => ⟨fun h => ?_, fun h => ?_⟩
      · simp only [decide_eq_true_eq] at h
        have hil : i < l.length := by omega
        have hg : ∀ d, (l.map sigS).getD i d = sigS (l.getD i sig0) := fun d => getIn sigS l i d sig0 hil
        have su := sumT_succ (fun x => x.2.2.1.length) l i sig0 hil
        have sl2 := sumT_le (fun x => x.2.2.1.length) l (i + 1) l.length hil
        have ex := el (l.getD i sig0) (a - l.length - sumT (fun x => x.2.2.1.length) l i) (by omega) (by omega)
        try simp only at su
        try simp only [sigS] at ex
        simp only [hT, hg, sigS, eA, Nat.beq, List.toArray, Nat.reduceAdd, Nat.reduceLT, Nat.reduceLeDiff, Int.reduceToNat]
        (try unfold lim); repeat first | ((with_reducible refine And.intro ?_ ?_); (first | omega | exact ⟨by omega, by omega⟩ | rfl)) | intro _
        refine Fun.plain ex rfl rfl rfl rfl ?_
        unfold szL
        simp only [hT, eA, Nat.beq, List.toArray, Nat.reduceAdd, Nat.reduceLT, Nat.reduceLeDiff, Int.reduceToNat]
        by_cases q : a - l.length - sumT (fun x => x.2.2.1.length) l i < ((l.getD i sig0).2.2.1.length : Nat)
        · rw [if_pos q]; simp only [Int.reduceNeg, Int.reduceLT, decide_true, If_lit]
          rw [if_pos (by omega)]
        · rw [if_neg q]
          simp only [decide_eq_false (show ¬ a - l.length - sumT (fun x => x.2.2.1.length) l i - ((l.getD i sig0).2.2.1.length : Nat) < 0 by omega), If_lit, hT, eA, Nat.beq, List.toArray, Nat.reduceAdd, Nat.reduceLT, Nat.reduceLeDiff, Int.reduceToNat]
          refine ⟨⟨by omega, by omega⟩, ⟨i + 1, hil, by omega⟩, by simp only; omega, Le.of [] (Nat.zero_le _) ?_ ?_ ?_⟩
          · simp only [eL, eH, eG, leO, Nat.beq, Nat.reduceLT]
          · simp only [eL, eH, eG, leO, Nat.beq, Nat.reduceLT] <;> omega
          · simp only [eL, eH, eG, leO, Nat.beq, Nat.reduceLT]
      · simp only [decide_eq_false_iff_not] at h
        obtain rfl : i = l.length := by omega
        rw [if_neg (by omega)]
        omega
theorem szSeen {P : Program} [Known P] (hP : P = Tryz.prog) (l : List VSig) (a : Int) (h1 : 0 ≤ a) (h2 : a ≤ 1048576) : Fun P 196 [.sl 3 (l.map sigS) sigZ, .int .i64 a] (.int .i64 (szL (l.length + sumA (fun x => x.2.2.1.length) l) a)) := szCelSightS hP l sigZ a h1 h2
theorem szAir {P : Program} [Known P] (hP : P = Tryz.prog) (l : List (List UInt8)) (a : Int) (h1 : 0 ≤ a) (h2 : a ≤ 1048576) : Fun P 130 [.sl 1 (l.map msgS) msgZ, .int .i64 a] (.int .i64 (szL (l.length + sumA (fun x => x.length) l) a)) := szByteSS hP l msgZ a h1 h2
theorem TY_szCelSightSS {P : Program} (hP : P = Tryz.prog) : (lkT P 66 = 1) ∧ ((elT P 66 = some ((false, (1, 24)))) ∧ (tyT P 245 = some ((false, 1)))) := by subst hP; refine ⟨?_, ⟨?_, ?_⟩⟩ <;> kernel_rfl
theorem szCelSightSS {P : Program} [Known P] (hP : P = Tryz.prog) (l : List (List VSig)) (d : List AV) (a : Int) (h1 : 0 ≤ a) (h2 : a ≤ 1048576) : Fun P 106 [.sl 1 (l.map seenS) d, .int .i64 a] (.int .i64 (szL (l.length + sumA (fun x => x.length + sumA (fun x => x.2.2.1.length) x) l) a)) := by
  refine fun_of (fn := Tryz.f106) (hP ▸ Tryz.func106) (by kernel_rfl) (by kernel_rfl) (by kernel_rfl) (by kernel_rfl) ?_
  have hT := TY_szCelSightSS hP
  have el := @szSeen P _ hP
  clear hP
  intro hl
  simp only [limL, limA, and_true, List.length_map] at hl
  simp only [Tryz.f106, hT, eA, Nat.beq, List.toArray, Nat.reduceAdd, Nat.reduceLT, Nat.reduceLeDiff, Int.reduceToNat]
  unfold lim at hl
  have hl' := hl
  (try unfold lim); repeat first | ((with_reducible refine And.intro ?_ ?_); (first | omega | exact ⟨by omega, by omega⟩ | rfl)) | intro _
  unfold szL
  have hA0 : sumA (fun x => x.length + sumA (fun x => x.2.2.1.length) x) l = sumT (fun x => x.length + sumA (fun x => x.2.2.1.length) x) l l.length := rfl
  refine ⟨fun h => ?_, fun h => ?_⟩
  · simp only [decide_eq_true_eq] at h; rw [if_pos (by omega)]
  · simp only [decide_eq_false_iff_not] at h
    refine wpc_loop {i : Nat // i ≤ l.length ∧ 0 ≤ (a : Int) - l.length - sumT (fun x => x.length + sumA (fun x => x.2.2.1.length) x) l i} (fun i => ⟨[(0, .sl 1 (l.map seenS) d), (1, .int .i64 (a - l.length - sumT (fun x => x.length + sumA (fun x => x.2.2.1.length) x) l i.1)), (5, .int .i64 i.1)], [], 0⟩) (fun i => l.length - i.1) ⟨0, Nat.zero_le _, by simp only [sumT, List.take_zero, List.map_nil, List.sum_nil]; omega⟩ (Le.of [] (Nat.zero_le _) ?_ ?_ ?_) ?_
    · simp only [eL, eH, eG, leO, Nat.beq, Nat.reduceLT]
    · simp only [eL, eH, eG, leO, Nat.beq, Nat.reduceLT, sumT, List.take_zero, List.map_nil, List.sum_nil] <;> omega
    · simp only [eL, eH, eG, leO, Nat.beq, Nat.reduceLT]
    · rintro ⟨i, hi, hb⟩
      simp only [hT, eA, Nat.beq, List.toArray, Nat.reduceAdd, Nat.reduceLT, Nat.reduceLeDiff, Int.reduceToNat]
      have sl := sumT_le (fun x => x.length + sumA (fun x => x.2.2.1.length) x) l i l.length hi
      refine fun _ => ⟨fun h => ?_, fun h => ?_⟩
      · simp only [decide_eq_true_eq] at h
        have hil : i < l.length := by omega
        have hg : ∀ d, (l.map seenS).getD i d = seenS (l.getD i []) := fun d => getIn seenS l i d [] hil
        have su := sumT_succ (fun x => x.length + sumA (fun x => x.2.2.1.length) x) l i [] hil
        have sl2 := sumT_le (fun x => x.length + sumA (fun x => x.2.2.1.length) x) l (i + 1) l.length hil
        have ex := el (l.getD i []) (a - l.length - sumT (fun x => x.length + sumA (fun x => x.2.2.1.length) x) l i) (by omega) (by omega)
        try simp only at su
        try simp only [seenS] at ex
        simp only [hT, hg, seenS, eA, Nat.beq, List.toArray, Nat.reduceAdd, Nat.reduceLT, Nat.reduceLeDiff, Int.reduceToNat]
        (try unfold lim); repeat first | ((with_reducible refine And.intro ?_ ?_); (first | omega | exact ⟨by omega, by omega⟩ | rfl)) | intro _
        refine Fun.plain ex rfl rfl rfl rfl ?_
        unfold szL
        simp only [hT, eA, Nat.beq, List.toArray, Nat.reduceAdd, Nat.reduceLT, Nat.reduceLeDiff, Int.reduceToNat]
        by_cases q : a - l.length - sumT (fun x => x.length + sumA (fun x => x.2.2.1.length) x) l i < ((l.getD i []).length + sumA (fun x => x.2.2.1.length) (l.getD i []) : Nat)
        · rw [if_pos q]; simp only [Int.reduceNeg, Int.reduceLT, decide_true, If_lit]
          rw [if_pos (by omega)]
        · rw [if_neg q]
          simp only [decide_eq_false (show ¬ a - l.length - sumT (fun x => x.length + sumA (fun x => x.2.2.1.length) x) l i - ((l.getD i []).length + sumA (fun x => x.2.2.1.length) (l.getD i []) : Nat) < 0 by omega), If_lit, hT, eA, Nat.beq, List.toArray, Nat.reduceAdd, Nat.reduceLT, Nat.reduceLeDiff, Int.reduceToNat]
          refine ⟨⟨by omega, by omega⟩, ⟨i + 1, hil, by omega⟩, by simp only; omega, Le.of [] (Nat.zero_le _) ?_ ?_ ?_⟩
          · simp only [eL, eH, eG, leO, Nat.beq, Nat.reduceLT]
          · simp only [eL, eH, eG, leO, Nat.beq, Nat.reduceLT] <;> omega
          · simp only [eL, eH, eG, leO, Nat.beq, Nat.reduceLT]
      · simp only [decide_eq_false_iff_not] at h
        obtain rfl : i = l.length := by omega
        rw [if_neg (by omega)]
        omega
theorem TY_szByteSSS {P : Program} (hP : P = Tryz.prog) : (lkT P 65 = 1) ∧ ((elT P 65 = some ((false, (1, 24)))) ∧ (tyT P 79 = some ((false, 1)))) := by subst hP; refine ⟨?_, ⟨?_, ?_⟩⟩ <;> kernel_rfl
theorem szByteSSS {P : Program} [Known P] (hP : P = Tryz.prog) (l : List (List (List UInt8))) (d : List AV) (a : Int) (h1 : 0 ≤ a) (h2 : a ≤ 1048576) : Fun P 105 [.sl 1 (l.map airS) d, .int .i64 a] (.int .i64 (szL (l.length + sumA (fun x => x.length + sumA (fun x => x.length) x) l) a)) := by
  refine fun_of (fn := Tryz.f105) (hP ▸ Tryz.func105) (by kernel_rfl) (by kernel_rfl) (by kernel_rfl) (by kernel_rfl) ?_
  have hT := TY_szByteSSS hP
  have el := @szAir P _ hP
  clear hP
  intro hl
  simp only [limL, limA, and_true, List.length_map] at hl
  simp only [Tryz.f105, hT, eA, Nat.beq, List.toArray, Nat.reduceAdd, Nat.reduceLT, Nat.reduceLeDiff, Int.reduceToNat]
  unfold lim at hl
  have hl' := hl
  (try unfold lim); repeat first | ((with_reducible refine And.intro ?_ ?_); (first | omega | exact ⟨by omega, by omega⟩ | rfl)) | intro _
  unfold szL
  have hA0 : sumA (fun x => x.length + sumA (fun x => x.length) x) l = sumT (fun x => x.length + sumA (fun x => x.length) x) l l.length := rfl
  refine ⟨fun h => ?_, fun h => ?_⟩
  · simp only [decide_eq_true_eq] at h; rw [if_pos (by omega)]
  · simp only [decide_eq_false_iff_not] at h
    refine wpc_loop {i : Nat // i ≤ l.length ∧ 0 ≤ (a : Int) - l.length - sumT (fun x => x.length + sumA (fun x => x.length) x) l i} (fun i => ⟨[(0, .sl 1 (l.map airS) d), (1, .int .i64 (a - l.length - sumT (fun x => x.length + sumA (fun x => x.length) x) l i.1)), (5, .int .i64 i.1)], [], 0⟩) (fun i => l.length - i.1) ⟨0, Nat.zero_le _, by simp only [sumT, List.take_zero, List.map_nil, List.sum_nil]; omega⟩ (Le.of [] (Nat.zero_le _) ?_ ?_ ?_) ?_
    · simp only [eL, eH, eG, leO, Nat.beq, Nat.reduceLT]
    · simp only [eL, eH, eG, leO, Nat.beq, Nat.reduceLT, sumT, List.take_zero, List.map_nil, List.sum_nil] <;> omega
    · simp only [eL, eH, eG, leO, Nat.beq, Nat.reduceLT]
    · rintro ⟨i, hi, hb⟩
      simp only [hT, eA, Nat.beq, List.toArray, Nat.reduceAdd, Nat.reduceLT, Nat.reduceLeDiff, Int.reduceToNat]
      have sl := sumT_le (fun x => x.length + sumA (fun x => x.length) x) l i l.length hi
      refine fun _ => ⟨fun h => ?_, fun h => ?_⟩
      · simp only [decide_eq_true_eq] at h
        have hil : i < l.length := by omega
        have hg : ∀ d, (l.map airS).getD i d = airS (l.getD i []) := fun d => getIn airS l i d [] hil
        have su := sumT_succ (fun x => x.length + sumA (fun x => x.length) x) l i [] hil
        have sl2 := sumT_le (fun x => x.length + sumA (fun x => x.length) x) l (i + 1) l.length hil
        have ex := el (l.getD i []) (a - l.length - sumT (fun x => x.length + sumA (fun x => x.length) x) l i) (by omega) (by omega)
        try simp only at su
        try simp only [airS] at ex
        simp only [hT, hg, airS, eA, Nat.beq, List.toArray, Nat.reduceAdd, Nat.reduceLT, Nat.reduceLeDiff, Int.reduceToNat]
        (try unfold lim); repeat first | ((with_reducible refine And.intro ?_ ?_); (first | omega | exact ⟨by omega, by omega⟩ | rfl)) | intro _
        refine Fun.plain ex rfl rfl rfl rfl ?_
        unfold szL
        simp only [hT, eA, Nat.beq, List.toArray, Nat.reduceAdd, Nat.reduceLT, Nat.reduceLeDiff, Int.reduceToNat]
        by_cases q : a - l.length - sumT (fun x => x.length + sumA (fun x => x.length) x) l i < ((l.getD i []).length + sumA (fun x => x.length) (l.getD i []) : Nat)
        · rw [if_pos q]; simp only [Int.reduceNeg, Int.reduceLT, decide_true, If_lit]
          rw [if_pos (by omega)]
        · rw [if_neg q]
          simp only [decide_eq_false (show ¬ a - l.length - sumT (fun x => x.length + sumA (fun x => x.length) x) l i - ((l.getD i []).length + sumA (fun x => x.length) (l.getD i []) : Nat) < 0 by omega), If_lit, hT, eA, Nat.beq, List.toArray, Nat.reduceAdd, Nat.reduceLT, Nat.reduceLeDiff, Int.reduceToNat]
          refine ⟨⟨by omega, by omega⟩, ⟨i + 1, hil, by omega⟩, by simp only; omega, Le.of [] (Nat.zero_le _) ?_ ?_ ?_⟩
          · simp only [eL, eH, eG, leO, Nat.beq, Nat.reduceLT]
          · simp only [eL, eH, eG, leO, Nat.beq, Nat.reduceLT] <;> omega
          · simp only [eL, eH, eG, leO, Nat.beq, Nat.reduceLT]
      · simp only [decide_eq_false_iff_not] at h
        obtain rfl : i = l.length := by omega
        rw [if_neg (by omega)]
        omega
def oneN (n : VOne) : Nat := (n.plan.cells.length + sumA (fun x => x.2.2.2.1.length) n.plan.cells + n.plan.ways.length + sumA (fun x => x.2.2.2.2.1.length) n.plan.ways + n.plan.slots.length + n.plan.turns.length + sumA (fun x => x.length) n.plan.turns) + (n.up.length) + (n.cells.length + sumA (fun x => x.1.2.1.length + x.1.2.2.1.length + x.2.1.length) n.cells) + (n.out.length + sumA (fun x => x.2.1.length + sumA (fun x => x.length) x.2.1) n.out) + (n.inn.length + sumA (fun x => x.2.1.length + sumA (fun x => x.length) x.2.1) n.inn) + (n.air.length + sumA (fun x => x.length + sumA (fun x => x.length) x) n.air) + (n.seen.length + sumA (fun x => x.length + sumA (fun x => x.2.2.1.length) x) n.seen)
theorem SzO.of {a : VOne} (h : oneN a ≤ 1048576) : SzO a := by
  unfold oneN at h
  have hp : Sz a.plan := Sz.of (by unfold plnN; omega)
  refine ⟨hp, by omega, by omega, fun i hi => ?_, fun i hi => ?_, by omega, fun i hi => ?_, by omega, fun i hi => ?_, by omega, fun i hi => ?_, by omega, fun i hi => ?_⟩
  · have := sumA_get (fun x : VCel => x.1.2.1.length + x.1.2.2.1.length + x.2.1.length) a.cells i cel0 hi
    try simp only at this
    omega
  · have := sumA_get (fun x : VCel => x.1.2.1.length + x.1.2.2.1.length + x.2.1.length) a.cells i cel0 hi
    try simp only at this
    omega
  · have := sumA_get (fun x : VBox => x.2.1.length + sumA (fun x => x.length) x.2.1) a.out i box0 hi
    try simp only at this
    omega
  · have := sumA_get (fun x : VBox => x.2.1.length + sumA (fun x => x.length) x.2.1) a.inn i box0 hi
    try simp only at this
    omega
  · have := sumA_get (fun x : List (List UInt8) => x.length + sumA (fun x => x.length) x) a.air i [] hi
    try simp only at this
    omega
  · have := sumA_get (fun x : List VSig => x.length + sumA (fun x => x.2.2.1.length) x) a.seen i [] hi
    try simp only at this
    omega
theorem TY_szOneState {P : Program} (hP : P = Tryz.prog) : (((fldT P 68 0 = some ((0, (true, 7)))) ∧ ((tyT P 27 = some ((true, 7))) ∧ (fldT P 68 1 = some ((7, (false, 1)))))) ∧ ((tyT P 64 = some ((false, 1))) ∧ ((fldT P 68 2 = some ((8, (false, 1)))) ∧ (tyT P 50 = some ((false, 1)))))) ∧ (((fldT P 68 3 = some ((9, (false, 1)))) ∧ ((tyT P 51 = some ((false, 1))) ∧ (fldT P 68 4 = some ((10, (false, 1)))))) ∧ (((fldT P 68 5 = some ((11, (false, 1)))) ∧ (tyT P 65 = some ((false, 1)))) ∧ ((fldT P 68 7 = some ((13, (false, 1)))) ∧ (tyT P 66 = some ((false, 1)))))) := by subst hP; refine ⟨⟨⟨?_, ⟨?_, ?_⟩⟩, ⟨?_, ⟨?_, ?_⟩⟩⟩, ⟨⟨?_, ⟨?_, ?_⟩⟩, ⟨⟨?_, ?_⟩, ⟨?_, ?_⟩⟩⟩⟩ <;> kernel_rfl
theorem szOneState {P : Program} [Known P] (hP : P = Tryz.prog) (x : VOne) (a : Int) (h1 : 0 ≤ a) (h2 : a ≤ 1048576) : Fun P 32 [.agg (oneS x), .int .i64 a] (.int .i64 (szL (x.plan.cells.length + sumA (fun x => x.2.2.2.1.length) x.plan.cells + x.plan.ways.length + sumA (fun x => x.2.2.2.2.1.length) x.plan.ways + x.plan.slots.length + x.plan.turns.length + sumA (fun x => x.length) x.plan.turns + x.up.length + x.cells.length + sumA (fun x => x.1.2.1.length + x.1.2.2.1.length + x.2.1.length) x.cells + x.out.length + sumA (fun x => x.2.1.length + sumA (fun x => x.length) x.2.1) x.out + x.inn.length + sumA (fun x => x.2.1.length + sumA (fun x => x.length) x.2.1) x.inn + x.air.length + sumA (fun x => x.length + sumA (fun x => x.length) x) x.air + x.seen.length + sumA (fun x => x.length + sumA (fun x => x.2.2.1.length) x) x.seen) a)) := by
  refine fun_of (fn := Tryz.f32) (hP ▸ Tryz.func32) (by kernel_rfl) (by kernel_rfl) (by kernel_rfl) (by kernel_rfl) ?_
  have hT := TY_szOneState hP
  have e0 := @szPlnPlan P _ hP
  try simp only [stS, stO, hrdS, hrdO, plnS, plnO, nodS, nodO] at e0
  have e1 := @szBoolS P _ hP
  try simp only [stS, stO, hrdS, hrdO, plnS, plnO, nodS, nodO] at e1
  have e2 := @szCelCellS P _ hP
  try simp only [stS, stO, hrdS, hrdO, plnS, plnO, nodS, nodO] at e2
  have e3 := @szBoxBoxS P _ hP
  try simp only [stS, stO, hrdS, hrdO, plnS, plnO, nodS, nodO] at e3
  have e4 := @szBoxBoxS P _ hP
  try simp only [stS, stO, hrdS, hrdO, plnS, plnO, nodS, nodO] at e4
  have e5 := @szByteSSS P _ hP
  try simp only [stS, stO, hrdS, hrdO, plnS, plnO, nodS, nodO] at e5
  have e6 := @szCelSightSS P _ hP
  try simp only [stS, stO, hrdS, hrdO, plnS, plnO, nodS, nodO] at e6
  clear hP
  intro hl
  clear hl
  simp only [oneS, Tryz.f32, hT, eA, Nat.beq, List.toArray, Nat.reduceAdd, Nat.reduceLT, Nat.reduceLeDiff, Int.reduceToNat]
  have s0 : ∀ a, szL (x.plan.cells.length + sumA (fun x => x.2.2.2.1.length) x.plan.cells + x.plan.ways.length + sumA (fun x => x.2.2.2.2.1.length) x.plan.ways + x.plan.slots.length + x.plan.turns.length + sumA (fun x => x.length) x.plan.turns) a = if a < (x.plan.cells.length + sumA (fun x => x.2.2.2.1.length) x.plan.cells + x.plan.ways.length + sumA (fun x => x.2.2.2.2.1.length) x.plan.ways + x.plan.slots.length + x.plan.turns.length + sumA (fun x => x.length) x.plan.turns : Nat) then -1 else a - (x.plan.cells.length + sumA (fun x => x.2.2.2.1.length) x.plan.cells + x.plan.ways.length + sumA (fun x => x.2.2.2.2.1.length) x.plan.ways + x.plan.slots.length + x.plan.turns.length + sumA (fun x => x.length) x.plan.turns : Nat) := fun _ => rfl
  have s1 : ∀ a, szL (x.up.length) a = if a < (x.up.length : Nat) then -1 else a - (x.up.length : Nat) := fun _ => rfl
  have s2 : ∀ a, szL (x.cells.length + sumA (fun x => x.1.2.1.length + x.1.2.2.1.length + x.2.1.length) x.cells) a = if a < (x.cells.length + sumA (fun x => x.1.2.1.length + x.1.2.2.1.length + x.2.1.length) x.cells : Nat) then -1 else a - (x.cells.length + sumA (fun x => x.1.2.1.length + x.1.2.2.1.length + x.2.1.length) x.cells : Nat) := fun _ => rfl
  have s3 : ∀ a, szL (x.out.length + sumA (fun x => x.2.1.length + sumA (fun x => x.length) x.2.1) x.out) a = if a < (x.out.length + sumA (fun x => x.2.1.length + sumA (fun x => x.length) x.2.1) x.out : Nat) then -1 else a - (x.out.length + sumA (fun x => x.2.1.length + sumA (fun x => x.length) x.2.1) x.out : Nat) := fun _ => rfl
  have s4 : ∀ a, szL (x.inn.length + sumA (fun x => x.2.1.length + sumA (fun x => x.length) x.2.1) x.inn) a = if a < (x.inn.length + sumA (fun x => x.2.1.length + sumA (fun x => x.length) x.2.1) x.inn : Nat) then -1 else a - (x.inn.length + sumA (fun x => x.2.1.length + sumA (fun x => x.length) x.2.1) x.inn : Nat) := fun _ => rfl
  have s5 : ∀ a, szL (x.air.length + sumA (fun x => x.length + sumA (fun x => x.length) x) x.air) a = if a < (x.air.length + sumA (fun x => x.length + sumA (fun x => x.length) x) x.air : Nat) then -1 else a - (x.air.length + sumA (fun x => x.length + sumA (fun x => x.length) x) x.air : Nat) := fun _ => rfl
  have s6 : ∀ a, szL (x.seen.length + sumA (fun x => x.length + sumA (fun x => x.2.2.1.length) x) x.seen) a = if a < (x.seen.length + sumA (fun x => x.length + sumA (fun x => x.2.2.1.length) x) x.seen : Nat) then -1 else a - (x.seen.length + sumA (fun x => x.length + sumA (fun x => x.2.2.1.length) x) x.seen : Nat) := fun _ => rfl
  unfold szL
  refine Fun.plain (e0 x.plan a (by omega) (by omega)) rfl rfl rfl rfl ?_
  simp only [hT, eA, Nat.beq, List.toArray, Nat.reduceAdd, Nat.reduceLT, Nat.reduceLeDiff, Int.reduceToNat]
  by_cases q0 : a < (x.plan.cells.length + sumA (fun x => x.2.2.2.1.length) x.plan.cells + x.plan.ways.length + sumA (fun x => x.2.2.2.2.1.length) x.plan.ways + x.plan.slots.length + x.plan.turns.length + sumA (fun x => x.length) x.plan.turns : Nat)
  · rw [s0, if_pos q0]; simp only [Int.reduceNeg, Int.reduceLT, decide_true, If_lit]; try rw [if_pos (by omega)]
  rw [s0, if_neg q0]
  simp only [decide_eq_false (show ¬ a - (x.plan.cells.length + sumA (fun x => x.2.2.2.1.length) x.plan.cells + x.plan.ways.length + sumA (fun x => x.2.2.2.2.1.length) x.plan.ways + x.plan.slots.length + x.plan.turns.length + sumA (fun x => x.length) x.plan.turns : Nat) < 0 by omega), If_lit, hT, eA, Nat.beq, List.toArray, Nat.reduceAdd, Nat.reduceLT, Nat.reduceLeDiff, Int.reduceToNat]
  refine Fun.plain (e1 _ (a - (x.plan.cells.length + sumA (fun x => x.2.2.2.1.length) x.plan.cells + x.plan.ways.length + sumA (fun x => x.2.2.2.2.1.length) x.plan.ways + x.plan.slots.length + x.plan.turns.length + sumA (fun x => x.length) x.plan.turns : Nat)) (by omega) (by omega)) rfl rfl rfl rfl ?_
  simp only [hT, eA, Nat.beq, List.toArray, Nat.reduceAdd, Nat.reduceLT, Nat.reduceLeDiff, Int.reduceToNat]
  by_cases q1 : (a - (x.plan.cells.length + sumA (fun x => x.2.2.2.1.length) x.plan.cells + x.plan.ways.length + sumA (fun x => x.2.2.2.2.1.length) x.plan.ways + x.plan.slots.length + x.plan.turns.length + sumA (fun x => x.length) x.plan.turns : Nat)) < (x.up.length : Nat)
  · rw [s1, if_pos q1]; simp only [Int.reduceNeg, Int.reduceLT, decide_true, If_lit]; try rw [if_pos (by omega)]
  rw [s1, if_neg q1]
  simp only [decide_eq_false (show ¬ (a - (x.plan.cells.length + sumA (fun x => x.2.2.2.1.length) x.plan.cells + x.plan.ways.length + sumA (fun x => x.2.2.2.2.1.length) x.plan.ways + x.plan.slots.length + x.plan.turns.length + sumA (fun x => x.length) x.plan.turns : Nat)) - (x.up.length : Nat) < 0 by omega), If_lit, hT, eA, Nat.beq, List.toArray, Nat.reduceAdd, Nat.reduceLT, Nat.reduceLeDiff, Int.reduceToNat]
  refine Fun.plain (e2 _ _ ((a - (x.plan.cells.length + sumA (fun x => x.2.2.2.1.length) x.plan.cells + x.plan.ways.length + sumA (fun x => x.2.2.2.2.1.length) x.plan.ways + x.plan.slots.length + x.plan.turns.length + sumA (fun x => x.length) x.plan.turns : Nat)) - (x.up.length : Nat)) (by omega) (by omega)) rfl rfl rfl rfl ?_
  simp only [hT, eA, Nat.beq, List.toArray, Nat.reduceAdd, Nat.reduceLT, Nat.reduceLeDiff, Int.reduceToNat]
  by_cases q2 : ((a - (x.plan.cells.length + sumA (fun x => x.2.2.2.1.length) x.plan.cells + x.plan.ways.length + sumA (fun x => x.2.2.2.2.1.length) x.plan.ways + x.plan.slots.length + x.plan.turns.length + sumA (fun x => x.length) x.plan.turns : Nat)) - (x.up.length : Nat)) < (x.cells.length + sumA (fun x => x.1.2.1.length + x.1.2.2.1.length + x.2.1.length) x.cells : Nat)
  · rw [s2, if_pos q2]; simp only [Int.reduceNeg, Int.reduceLT, decide_true, If_lit]; try rw [if_pos (by omega)]
  rw [s2, if_neg q2]
  simp only [decide_eq_false (show ¬ ((a - (x.plan.cells.length + sumA (fun x => x.2.2.2.1.length) x.plan.cells + x.plan.ways.length + sumA (fun x => x.2.2.2.2.1.length) x.plan.ways + x.plan.slots.length + x.plan.turns.length + sumA (fun x => x.length) x.plan.turns : Nat)) - (x.up.length : Nat)) - (x.cells.length + sumA (fun x => x.1.2.1.length + x.1.2.2.1.length + x.2.1.length) x.cells : Nat) < 0 by omega), If_lit, hT, eA, Nat.beq, List.toArray, Nat.reduceAdd, Nat.reduceLT, Nat.reduceLeDiff, Int.reduceToNat]
  refine Fun.plain (e3 _ _ (((a - (x.plan.cells.length + sumA (fun x => x.2.2.2.1.length) x.plan.cells + x.plan.ways.length + sumA (fun x => x.2.2.2.2.1.length) x.plan.ways + x.plan.slots.length + x.plan.turns.length + sumA (fun x => x.length) x.plan.turns : Nat)) - (x.up.length : Nat)) - (x.cells.length + sumA (fun x => x.1.2.1.length + x.1.2.2.1.length + x.2.1.length) x.cells : Nat)) (by omega) (by omega)) rfl rfl rfl rfl ?_
  simp only [hT, eA, Nat.beq, List.toArray, Nat.reduceAdd, Nat.reduceLT, Nat.reduceLeDiff, Int.reduceToNat]
  by_cases q3 : (((a - (x.plan.cells.length + sumA (fun x => x.2.2.2.1.length) x.plan.cells + x.plan.ways.length + sumA (fun x => x.2.2.2.2.1.length) x.plan.ways + x.plan.slots.length + x.plan.turns.length + sumA (fun x => x.length) x.plan.turns : Nat)) - (x.up.length : Nat)) - (x.cells.length + sumA (fun x => x.1.2.1.length + x.1.2.2.1.length + x.2.1.length) x.cells : Nat)) < (x.out.length + sumA (fun x => x.2.1.length + sumA (fun x => x.length) x.2.1) x.out : Nat)
  · rw [s3, if_pos q3]; simp only [Int.reduceNeg, Int.reduceLT, decide_true, If_lit]; try rw [if_pos (by omega)]
  rw [s3, if_neg q3]
  simp only [decide_eq_false (show ¬ (((a - (x.plan.cells.length + sumA (fun x => x.2.2.2.1.length) x.plan.cells + x.plan.ways.length + sumA (fun x => x.2.2.2.2.1.length) x.plan.ways + x.plan.slots.length + x.plan.turns.length + sumA (fun x => x.length) x.plan.turns : Nat)) - (x.up.length : Nat)) - (x.cells.length + sumA (fun x => x.1.2.1.length + x.1.2.2.1.length + x.2.1.length) x.cells : Nat)) - (x.out.length + sumA (fun x => x.2.1.length + sumA (fun x => x.length) x.2.1) x.out : Nat) < 0 by omega), If_lit, hT, eA, Nat.beq, List.toArray, Nat.reduceAdd, Nat.reduceLT, Nat.reduceLeDiff, Int.reduceToNat]
  refine Fun.plain (e4 _ _ ((((a - (x.plan.cells.length + sumA (fun x => x.2.2.2.1.length) x.plan.cells + x.plan.ways.length + sumA (fun x => x.2.2.2.2.1.length) x.plan.ways + x.plan.slots.length + x.plan.turns.length + sumA (fun x => x.length) x.plan.turns : Nat)) - (x.up.length : Nat)) - (x.cells.length + sumA (fun x => x.1.2.1.length + x.1.2.2.1.length + x.2.1.length) x.cells : Nat)) - (x.out.length + sumA (fun x => x.2.1.length + sumA (fun x => x.length) x.2.1) x.out : Nat)) (by omega) (by omega)) rfl rfl rfl rfl ?_
  simp only [hT, eA, Nat.beq, List.toArray, Nat.reduceAdd, Nat.reduceLT, Nat.reduceLeDiff, Int.reduceToNat]
  by_cases q4 : ((((a - (x.plan.cells.length + sumA (fun x => x.2.2.2.1.length) x.plan.cells + x.plan.ways.length + sumA (fun x => x.2.2.2.2.1.length) x.plan.ways + x.plan.slots.length + x.plan.turns.length + sumA (fun x => x.length) x.plan.turns : Nat)) - (x.up.length : Nat)) - (x.cells.length + sumA (fun x => x.1.2.1.length + x.1.2.2.1.length + x.2.1.length) x.cells : Nat)) - (x.out.length + sumA (fun x => x.2.1.length + sumA (fun x => x.length) x.2.1) x.out : Nat)) < (x.inn.length + sumA (fun x => x.2.1.length + sumA (fun x => x.length) x.2.1) x.inn : Nat)
  · rw [s4, if_pos q4]; simp only [Int.reduceNeg, Int.reduceLT, decide_true, If_lit]; try rw [if_pos (by omega)]
  rw [s4, if_neg q4]
  simp only [decide_eq_false (show ¬ ((((a - (x.plan.cells.length + sumA (fun x => x.2.2.2.1.length) x.plan.cells + x.plan.ways.length + sumA (fun x => x.2.2.2.2.1.length) x.plan.ways + x.plan.slots.length + x.plan.turns.length + sumA (fun x => x.length) x.plan.turns : Nat)) - (x.up.length : Nat)) - (x.cells.length + sumA (fun x => x.1.2.1.length + x.1.2.2.1.length + x.2.1.length) x.cells : Nat)) - (x.out.length + sumA (fun x => x.2.1.length + sumA (fun x => x.length) x.2.1) x.out : Nat)) - (x.inn.length + sumA (fun x => x.2.1.length + sumA (fun x => x.length) x.2.1) x.inn : Nat) < 0 by omega), If_lit, hT, eA, Nat.beq, List.toArray, Nat.reduceAdd, Nat.reduceLT, Nat.reduceLeDiff, Int.reduceToNat]
  refine Fun.plain (e5 _ _ (((((a - (x.plan.cells.length + sumA (fun x => x.2.2.2.1.length) x.plan.cells + x.plan.ways.length + sumA (fun x => x.2.2.2.2.1.length) x.plan.ways + x.plan.slots.length + x.plan.turns.length + sumA (fun x => x.length) x.plan.turns : Nat)) - (x.up.length : Nat)) - (x.cells.length + sumA (fun x => x.1.2.1.length + x.1.2.2.1.length + x.2.1.length) x.cells : Nat)) - (x.out.length + sumA (fun x => x.2.1.length + sumA (fun x => x.length) x.2.1) x.out : Nat)) - (x.inn.length + sumA (fun x => x.2.1.length + sumA (fun x => x.length) x.2.1) x.inn : Nat)) (by omega) (by omega)) rfl rfl rfl rfl ?_
  simp only [hT, eA, Nat.beq, List.toArray, Nat.reduceAdd, Nat.reduceLT, Nat.reduceLeDiff, Int.reduceToNat]
  by_cases q5 : (((((a - (x.plan.cells.length + sumA (fun x => x.2.2.2.1.length) x.plan.cells + x.plan.ways.length + sumA (fun x => x.2.2.2.2.1.length) x.plan.ways + x.plan.slots.length + x.plan.turns.length + sumA (fun x => x.length) x.plan.turns : Nat)) - (x.up.length : Nat)) - (x.cells.length + sumA (fun x => x.1.2.1.length + x.1.2.2.1.length + x.2.1.length) x.cells : Nat)) - (x.out.length + sumA (fun x => x.2.1.length + sumA (fun x => x.length) x.2.1) x.out : Nat)) - (x.inn.length + sumA (fun x => x.2.1.length + sumA (fun x => x.length) x.2.1) x.inn : Nat)) < (x.air.length + sumA (fun x => x.length + sumA (fun x => x.length) x) x.air : Nat)
  · rw [s5, if_pos q5]; simp only [Int.reduceNeg, Int.reduceLT, decide_true, If_lit]; try rw [if_pos (by omega)]
  rw [s5, if_neg q5]
  simp only [decide_eq_false (show ¬ (((((a - (x.plan.cells.length + sumA (fun x => x.2.2.2.1.length) x.plan.cells + x.plan.ways.length + sumA (fun x => x.2.2.2.2.1.length) x.plan.ways + x.plan.slots.length + x.plan.turns.length + sumA (fun x => x.length) x.plan.turns : Nat)) - (x.up.length : Nat)) - (x.cells.length + sumA (fun x => x.1.2.1.length + x.1.2.2.1.length + x.2.1.length) x.cells : Nat)) - (x.out.length + sumA (fun x => x.2.1.length + sumA (fun x => x.length) x.2.1) x.out : Nat)) - (x.inn.length + sumA (fun x => x.2.1.length + sumA (fun x => x.length) x.2.1) x.inn : Nat)) - (x.air.length + sumA (fun x => x.length + sumA (fun x => x.length) x) x.air : Nat) < 0 by omega), If_lit, hT, eA, Nat.beq, List.toArray, Nat.reduceAdd, Nat.reduceLT, Nat.reduceLeDiff, Int.reduceToNat]
  refine Fun.plain (e6 _ _ ((((((a - (x.plan.cells.length + sumA (fun x => x.2.2.2.1.length) x.plan.cells + x.plan.ways.length + sumA (fun x => x.2.2.2.2.1.length) x.plan.ways + x.plan.slots.length + x.plan.turns.length + sumA (fun x => x.length) x.plan.turns : Nat)) - (x.up.length : Nat)) - (x.cells.length + sumA (fun x => x.1.2.1.length + x.1.2.2.1.length + x.2.1.length) x.cells : Nat)) - (x.out.length + sumA (fun x => x.2.1.length + sumA (fun x => x.length) x.2.1) x.out : Nat)) - (x.inn.length + sumA (fun x => x.2.1.length + sumA (fun x => x.length) x.2.1) x.inn : Nat)) - (x.air.length + sumA (fun x => x.length + sumA (fun x => x.length) x) x.air : Nat)) (by omega) (by omega)) rfl rfl rfl rfl ?_
  simp only [hT, eA, Nat.beq, List.toArray, Nat.reduceAdd, Nat.reduceLT, Nat.reduceLeDiff, Int.reduceToNat]
  by_cases q6 : ((((((a - (x.plan.cells.length + sumA (fun x => x.2.2.2.1.length) x.plan.cells + x.plan.ways.length + sumA (fun x => x.2.2.2.2.1.length) x.plan.ways + x.plan.slots.length + x.plan.turns.length + sumA (fun x => x.length) x.plan.turns : Nat)) - (x.up.length : Nat)) - (x.cells.length + sumA (fun x => x.1.2.1.length + x.1.2.2.1.length + x.2.1.length) x.cells : Nat)) - (x.out.length + sumA (fun x => x.2.1.length + sumA (fun x => x.length) x.2.1) x.out : Nat)) - (x.inn.length + sumA (fun x => x.2.1.length + sumA (fun x => x.length) x.2.1) x.inn : Nat)) - (x.air.length + sumA (fun x => x.length + sumA (fun x => x.length) x) x.air : Nat)) < (x.seen.length + sumA (fun x => x.length + sumA (fun x => x.2.2.1.length) x) x.seen : Nat)
  · rw [s6, if_pos q6]; simp only [Int.reduceNeg, Int.reduceLT, decide_true, If_lit]; try rw [if_pos (by omega)]
  rw [s6, if_neg q6]
  simp only [decide_eq_false (show ¬ ((((((a - (x.plan.cells.length + sumA (fun x => x.2.2.2.1.length) x.plan.cells + x.plan.ways.length + sumA (fun x => x.2.2.2.2.1.length) x.plan.ways + x.plan.slots.length + x.plan.turns.length + sumA (fun x => x.length) x.plan.turns : Nat)) - (x.up.length : Nat)) - (x.cells.length + sumA (fun x => x.1.2.1.length + x.1.2.2.1.length + x.2.1.length) x.cells : Nat)) - (x.out.length + sumA (fun x => x.2.1.length + sumA (fun x => x.length) x.2.1) x.out : Nat)) - (x.inn.length + sumA (fun x => x.2.1.length + sumA (fun x => x.length) x.2.1) x.inn : Nat)) - (x.air.length + sumA (fun x => x.length + sumA (fun x => x.length) x) x.air : Nat)) - (x.seen.length + sumA (fun x => x.length + sumA (fun x => x.2.2.1.length) x) x.seen : Nat) < 0 by omega), If_lit, hT, eA, Nat.beq, List.toArray, Nat.reduceAdd, Nat.reduceLT, Nat.reduceLeDiff, Int.reduceToNat]
  all_goals (first | (rw [if_neg (by omega)]; omega) | omega)
theorem TY_szNodNodeS {P : Program} (hP : P = Tryz.prog) : (lkT P 78 = 1) ∧ ((elT P 78 = some ((true, (10, 192)))) ∧ (tyT P 56 = some ((true, 10)))) := by subst hP; refine ⟨?_, ⟨?_, ?_⟩⟩ <;> kernel_rfl
theorem szNodNodeS {P : Program} [Known P] (hP : P = Tryz.prog) (l : List (VNod)) (d : List AV) (a : Int) (h1 : 0 ≤ a) (h2 : a ≤ 1048576) : Fun P 129 [.sl 10 (l.map nodS) d, .int .i64 a] (.int .i64 (szL (l.length + sumA (fun x => x.cells.length + sumA (fun x => x.1.2.1.length + x.1.2.2.1.length + x.2.1.length) x.cells + x.out.length + sumA (fun x => x.2.1.length + sumA (fun x => x.length) x.2.1) x.out + x.inn.length + sumA (fun x => x.2.1.length + sumA (fun x => x.length) x.2.1) x.inn + x.outs.length + x.inns.length + x.heard.1.length + x.heard.2.1.length) l) a)) := by
  refine fun_of (fn := Tryz.f129) (hP ▸ Tryz.func129) (by kernel_rfl) (by kernel_rfl) (by kernel_rfl) (by kernel_rfl) ?_
  have hT := TY_szNodNodeS hP
  have el := @szNodNode P _ hP
  clear hP
  intro hl
  simp only [limL, limA, and_true, List.length_map] at hl
  simp only [Tryz.f129, hT, eA, Nat.beq, List.toArray, Nat.reduceAdd, Nat.reduceLT, Nat.reduceLeDiff, Int.reduceToNat]
  unfold lim at hl
  have hl' := hl
  (try unfold lim); repeat first | ((with_reducible refine And.intro ?_ ?_); (first | omega | exact ⟨by omega, by omega⟩ | rfl)) | intro _
  unfold szL
  have hA0 : sumA (fun x => x.cells.length + sumA (fun x => x.1.2.1.length + x.1.2.2.1.length + x.2.1.length) x.cells + x.out.length + sumA (fun x => x.2.1.length + sumA (fun x => x.length) x.2.1) x.out + x.inn.length + sumA (fun x => x.2.1.length + sumA (fun x => x.length) x.2.1) x.inn + x.outs.length + x.inns.length + x.heard.1.length + x.heard.2.1.length) l = sumT (fun x => x.cells.length + sumA (fun x => x.1.2.1.length + x.1.2.2.1.length + x.2.1.length) x.cells + x.out.length + sumA (fun x => x.2.1.length + sumA (fun x => x.length) x.2.1) x.out + x.inn.length + sumA (fun x => x.2.1.length + sumA (fun x => x.length) x.2.1) x.inn + x.outs.length + x.inns.length + x.heard.1.length + x.heard.2.1.length) l l.length := rfl
  refine ⟨fun h => ?_, fun h => ?_⟩
  · simp only [decide_eq_true_eq] at h; rw [if_pos (by omega)]
  · simp only [decide_eq_false_iff_not] at h
    refine wpc_loop {i : Nat // i ≤ l.length ∧ 0 ≤ (a : Int) - l.length - sumT (fun x => x.cells.length + sumA (fun x => x.1.2.1.length + x.1.2.2.1.length + x.2.1.length) x.cells + x.out.length + sumA (fun x => x.2.1.length + sumA (fun x => x.length) x.2.1) x.out + x.inn.length + sumA (fun x => x.2.1.length + sumA (fun x => x.length) x.2.1) x.inn + x.outs.length + x.inns.length + x.heard.1.length + x.heard.2.1.length) l i} (fun i => ⟨[(0, .sl 10 (l.map nodS) d), (1, .int .i64 (a - l.length - sumT (fun x => x.cells.length + sumA (fun x => x.1.2.1.length + x.1.2.2.1.length + x.2.1.length) x.cells + x.out.length + sumA (fun x => x.2.1.length + sumA (fun x => x.length) x.2.1) x.out + x.inn.length + sumA (fun x => x.2.1.length + sumA (fun x => x.length) x.2.1) x.inn + x.outs.length + x.inns.length + x.heard.1.length + x.heard.2.1.length) l i.1)), (5, .int .i64 i.1)], [], 0⟩) (fun i => l.length - i.1) ⟨0, Nat.zero_le _, by simp only [sumT, List.take_zero, List.map_nil, List.sum_nil]; omega⟩ (Le.of [] (Nat.zero_le _) ?_ ?_ ?_) ?_
    · simp only [eL, eH, eG, leO, Nat.beq, Nat.reduceLT]
    · simp only [eL, eH, eG, leO, Nat.beq, Nat.reduceLT, sumT, List.take_zero, List.map_nil, List.sum_nil] <;> omega
    · simp only [eL, eH, eG, leO, Nat.beq, Nat.reduceLT]
    · rintro ⟨i, hi, hb⟩
      simp only [hT, eA, Nat.beq, List.toArray, Nat.reduceAdd, Nat.reduceLT, Nat.reduceLeDiff, Int.reduceToNat]
      have sl := sumT_le (fun x => x.cells.length + sumA (fun x => x.1.2.1.length + x.1.2.2.1.length + x.2.1.length) x.cells + x.out.length + sumA (fun x => x.2.1.length + sumA (fun x => x.length) x.2.1) x.out + x.inn.length + sumA (fun x => x.2.1.length + sumA (fun x => x.length) x.2.1) x.inn + x.outs.length + x.inns.length + x.heard.1.length + x.heard.2.1.length) l i l.length hi
      refine fun _ => ⟨fun h => ?_, fun h => ?_⟩
      · simp only [decide_eq_true_eq] at h
        have hil : i < l.length := by omega
        have hg : ∀ d, (l.map nodS).getD i d = nodS (l.getD i nd0) := fun d => getIn nodS l i d nd0 hil
        have su := sumT_succ (fun x => x.cells.length + sumA (fun x => x.1.2.1.length + x.1.2.2.1.length + x.2.1.length) x.cells + x.out.length + sumA (fun x => x.2.1.length + sumA (fun x => x.length) x.2.1) x.out + x.inn.length + sumA (fun x => x.2.1.length + sumA (fun x => x.length) x.2.1) x.inn + x.outs.length + x.inns.length + x.heard.1.length + x.heard.2.1.length) l i nd0 hil
        have sl2 := sumT_le (fun x => x.cells.length + sumA (fun x => x.1.2.1.length + x.1.2.2.1.length + x.2.1.length) x.cells + x.out.length + sumA (fun x => x.2.1.length + sumA (fun x => x.length) x.2.1) x.out + x.inn.length + sumA (fun x => x.2.1.length + sumA (fun x => x.length) x.2.1) x.inn + x.outs.length + x.inns.length + x.heard.1.length + x.heard.2.1.length) l (i + 1) l.length hil
        have ex := el (l.getD i nd0) (a - l.length - sumT (fun x => x.cells.length + sumA (fun x => x.1.2.1.length + x.1.2.2.1.length + x.2.1.length) x.cells + x.out.length + sumA (fun x => x.2.1.length + sumA (fun x => x.length) x.2.1) x.out + x.inn.length + sumA (fun x => x.2.1.length + sumA (fun x => x.length) x.2.1) x.inn + x.outs.length + x.inns.length + x.heard.1.length + x.heard.2.1.length) l i) (by omega) (by omega)
        try simp only at su
        try simp only [nodS] at ex
        simp only [hT, hg, nodS, eA, Nat.beq, List.toArray, Nat.reduceAdd, Nat.reduceLT, Nat.reduceLeDiff, Int.reduceToNat]
        (try unfold lim); repeat first | ((with_reducible refine And.intro ?_ ?_); (first | omega | exact ⟨by omega, by omega⟩ | rfl)) | intro _
        refine Fun.plain ex rfl rfl rfl rfl ?_
        unfold szL
        simp only [hT, eA, Nat.beq, List.toArray, Nat.reduceAdd, Nat.reduceLT, Nat.reduceLeDiff, Int.reduceToNat]
        by_cases q : a - l.length - sumT (fun x => x.cells.length + sumA (fun x => x.1.2.1.length + x.1.2.2.1.length + x.2.1.length) x.cells + x.out.length + sumA (fun x => x.2.1.length + sumA (fun x => x.length) x.2.1) x.out + x.inn.length + sumA (fun x => x.2.1.length + sumA (fun x => x.length) x.2.1) x.inn + x.outs.length + x.inns.length + x.heard.1.length + x.heard.2.1.length) l i < ((l.getD i nd0).cells.length + sumA (fun x => x.1.2.1.length + x.1.2.2.1.length + x.2.1.length) (l.getD i nd0).cells + (l.getD i nd0).out.length + sumA (fun x => x.2.1.length + sumA (fun x => x.length) x.2.1) (l.getD i nd0).out + (l.getD i nd0).inn.length + sumA (fun x => x.2.1.length + sumA (fun x => x.length) x.2.1) (l.getD i nd0).inn + (l.getD i nd0).outs.length + (l.getD i nd0).inns.length + (l.getD i nd0).heard.1.length + (l.getD i nd0).heard.2.1.length : Nat)
        · rw [if_pos q]; simp only [Int.reduceNeg, Int.reduceLT, decide_true, If_lit]
          rw [if_pos (by omega)]
        · rw [if_neg q]
          simp only [decide_eq_false (show ¬ a - l.length - sumT (fun x => x.cells.length + sumA (fun x => x.1.2.1.length + x.1.2.2.1.length + x.2.1.length) x.cells + x.out.length + sumA (fun x => x.2.1.length + sumA (fun x => x.length) x.2.1) x.out + x.inn.length + sumA (fun x => x.2.1.length + sumA (fun x => x.length) x.2.1) x.inn + x.outs.length + x.inns.length + x.heard.1.length + x.heard.2.1.length) l i - ((l.getD i nd0).cells.length + sumA (fun x => x.1.2.1.length + x.1.2.2.1.length + x.2.1.length) (l.getD i nd0).cells + (l.getD i nd0).out.length + sumA (fun x => x.2.1.length + sumA (fun x => x.length) x.2.1) (l.getD i nd0).out + (l.getD i nd0).inn.length + sumA (fun x => x.2.1.length + sumA (fun x => x.length) x.2.1) (l.getD i nd0).inn + (l.getD i nd0).outs.length + (l.getD i nd0).inns.length + (l.getD i nd0).heard.1.length + (l.getD i nd0).heard.2.1.length : Nat) < 0 by omega), If_lit, hT, eA, Nat.beq, List.toArray, Nat.reduceAdd, Nat.reduceLT, Nat.reduceLeDiff, Int.reduceToNat]
          refine ⟨⟨by omega, by omega⟩, ⟨i + 1, hil, by omega⟩, by simp only; omega, Le.of [] (Nat.zero_le _) ?_ ?_ ?_⟩
          · simp only [eL, eH, eG, leO, Nat.beq, Nat.reduceLT]
          · simp only [eL, eH, eG, leO, Nat.beq, Nat.reduceLT] <;> omega
          · simp only [eL, eH, eG, leO, Nat.beq, Nat.reduceLT]
      · simp only [decide_eq_false_iff_not] at h
        obtain rfl : i = l.length := by omega
        rw [if_neg (by omega)]
        omega
def wldN (n : VWld) : Nat := (n.plan.cells.length + sumA (fun x => x.2.2.2.1.length) n.plan.cells + n.plan.ways.length + sumA (fun x => x.2.2.2.2.1.length) n.plan.ways + n.plan.slots.length + n.plan.turns.length + sumA (fun x => x.length) n.plan.turns) + (n.nodes.length + sumA (fun x => x.cells.length + sumA (fun x => x.1.2.1.length + x.1.2.2.1.length + x.2.1.length) x.cells + x.out.length + sumA (fun x => x.2.1.length + sumA (fun x => x.length) x.2.1) x.out + x.inn.length + sumA (fun x => x.2.1.length + sumA (fun x => x.length) x.2.1) x.inn + x.outs.length + x.inns.length + x.heard.1.length + x.heard.2.1.length) n.nodes) + (n.log.length + sumA (fun x => x.length) n.log) + (n.seen.length + sumA (fun x => x.length + sumA (fun x => x.2.2.1.length) x) n.seen)
theorem SzW.of {a : VWld} (h : wldN a ≤ 1048576) : SzW a := by
  unfold wldN at h
  have hp : Sz a.plan := Sz.of (by unfold plnN; omega)
  refine ⟨hp, by omega, fun i hi => ?_, by omega, by omega, fun i hi => ?_⟩
  · have := sumA_get (fun x : VNod => x.cells.length + sumA (fun x => x.1.2.1.length + x.1.2.2.1.length + x.2.1.length) x.cells + x.out.length + sumA (fun x => x.2.1.length + sumA (fun x => x.length) x.2.1) x.out + x.inn.length + sumA (fun x => x.2.1.length + sumA (fun x => x.length) x.2.1) x.inn + x.outs.length + x.inns.length + x.heard.1.length + x.heard.2.1.length) a.nodes i nd0 hi
    refine SzN.of ?_
    unfold nodN
    try simp only at this
    omega
  · have := sumA_get (fun x : List VSig => x.length + sumA (fun x => x.2.2.1.length) x) a.seen i [] hi
    try simp only at this
    omega
theorem TY_szWldWorld {P : Program} (hP : P = Tryz.prog) : (((fldT P 81 0 = some ((0, (true, 7)))) ∧ (tyT P 27 = some ((true, 7)))) ∧ ((fldT P 81 1 = some ((7, (false, 1)))) ∧ (tyT P 78 = some ((false, 1))))) ∧ (((fldT P 81 3 = some ((9, (false, 1)))) ∧ (tyT P 79 = some ((false, 1)))) ∧ ((fldT P 81 4 = some ((10, (false, 1)))) ∧ (tyT P 66 = some ((false, 1))))) := by subst hP; refine ⟨⟨⟨?_, ?_⟩, ⟨?_, ?_⟩⟩, ⟨⟨?_, ?_⟩, ⟨?_, ?_⟩⟩⟩ <;> kernel_rfl
theorem szWldWorld {P : Program} [Known P] (hP : P = Tryz.prog) (x : VWld) (a : Int) (h1 : 0 ≤ a) (h2 : a ≤ 1048576) : Fun P 39 [.agg (wldS x), .int .i64 a] (.int .i64 (szL (x.plan.cells.length + sumA (fun x => x.2.2.2.1.length) x.plan.cells + x.plan.ways.length + sumA (fun x => x.2.2.2.2.1.length) x.plan.ways + x.plan.slots.length + x.plan.turns.length + sumA (fun x => x.length) x.plan.turns + x.nodes.length + sumA (fun x => x.cells.length + sumA (fun x => x.1.2.1.length + x.1.2.2.1.length + x.2.1.length) x.cells + x.out.length + sumA (fun x => x.2.1.length + sumA (fun x => x.length) x.2.1) x.out + x.inn.length + sumA (fun x => x.2.1.length + sumA (fun x => x.length) x.2.1) x.inn + x.outs.length + x.inns.length + x.heard.1.length + x.heard.2.1.length) x.nodes + x.log.length + sumA (fun x => x.length) x.log + x.seen.length + sumA (fun x => x.length + sumA (fun x => x.2.2.1.length) x) x.seen) a)) := by
  refine fun_of (fn := Tryz.f39) (hP ▸ Tryz.func39) (by kernel_rfl) (by kernel_rfl) (by kernel_rfl) (by kernel_rfl) ?_
  have hT := TY_szWldWorld hP
  have e0 := @szPlnPlan P _ hP
  try simp only [stS, stO, hrdS, hrdO, plnS, plnO, nodS, nodO] at e0
  have e1 := @szNodNodeS P _ hP
  try simp only [stS, stO, hrdS, hrdO, plnS, plnO, nodS, nodO] at e1
  have e2 := @szByteSS P _ hP
  try simp only [stS, stO, hrdS, hrdO, plnS, plnO, nodS, nodO] at e2
  have e3 := @szCelSightSS P _ hP
  try simp only [stS, stO, hrdS, hrdO, plnS, plnO, nodS, nodO] at e3
  clear hP
  intro hl
  clear hl
  simp only [wldS, Tryz.f39, hT, eA, Nat.beq, List.toArray, Nat.reduceAdd, Nat.reduceLT, Nat.reduceLeDiff, Int.reduceToNat]
  have s0 : ∀ a, szL (x.plan.cells.length + sumA (fun x => x.2.2.2.1.length) x.plan.cells + x.plan.ways.length + sumA (fun x => x.2.2.2.2.1.length) x.plan.ways + x.plan.slots.length + x.plan.turns.length + sumA (fun x => x.length) x.plan.turns) a = if a < (x.plan.cells.length + sumA (fun x => x.2.2.2.1.length) x.plan.cells + x.plan.ways.length + sumA (fun x => x.2.2.2.2.1.length) x.plan.ways + x.plan.slots.length + x.plan.turns.length + sumA (fun x => x.length) x.plan.turns : Nat) then -1 else a - (x.plan.cells.length + sumA (fun x => x.2.2.2.1.length) x.plan.cells + x.plan.ways.length + sumA (fun x => x.2.2.2.2.1.length) x.plan.ways + x.plan.slots.length + x.plan.turns.length + sumA (fun x => x.length) x.plan.turns : Nat) := fun _ => rfl
  have s1 : ∀ a, szL (x.nodes.length + sumA (fun x => x.cells.length + sumA (fun x => x.1.2.1.length + x.1.2.2.1.length + x.2.1.length) x.cells + x.out.length + sumA (fun x => x.2.1.length + sumA (fun x => x.length) x.2.1) x.out + x.inn.length + sumA (fun x => x.2.1.length + sumA (fun x => x.length) x.2.1) x.inn + x.outs.length + x.inns.length + x.heard.1.length + x.heard.2.1.length) x.nodes) a = if a < (x.nodes.length + sumA (fun x => x.cells.length + sumA (fun x => x.1.2.1.length + x.1.2.2.1.length + x.2.1.length) x.cells + x.out.length + sumA (fun x => x.2.1.length + sumA (fun x => x.length) x.2.1) x.out + x.inn.length + sumA (fun x => x.2.1.length + sumA (fun x => x.length) x.2.1) x.inn + x.outs.length + x.inns.length + x.heard.1.length + x.heard.2.1.length) x.nodes : Nat) then -1 else a - (x.nodes.length + sumA (fun x => x.cells.length + sumA (fun x => x.1.2.1.length + x.1.2.2.1.length + x.2.1.length) x.cells + x.out.length + sumA (fun x => x.2.1.length + sumA (fun x => x.length) x.2.1) x.out + x.inn.length + sumA (fun x => x.2.1.length + sumA (fun x => x.length) x.2.1) x.inn + x.outs.length + x.inns.length + x.heard.1.length + x.heard.2.1.length) x.nodes : Nat) := fun _ => rfl
  have s2 : ∀ a, szL (x.log.length + sumA (fun x => x.length) x.log) a = if a < (x.log.length + sumA (fun x => x.length) x.log : Nat) then -1 else a - (x.log.length + sumA (fun x => x.length) x.log : Nat) := fun _ => rfl
  have s3 : ∀ a, szL (x.seen.length + sumA (fun x => x.length + sumA (fun x => x.2.2.1.length) x) x.seen) a = if a < (x.seen.length + sumA (fun x => x.length + sumA (fun x => x.2.2.1.length) x) x.seen : Nat) then -1 else a - (x.seen.length + sumA (fun x => x.length + sumA (fun x => x.2.2.1.length) x) x.seen : Nat) := fun _ => rfl
  unfold szL
  refine Fun.plain (e0 x.plan a (by omega) (by omega)) rfl rfl rfl rfl ?_
  simp only [hT, eA, Nat.beq, List.toArray, Nat.reduceAdd, Nat.reduceLT, Nat.reduceLeDiff, Int.reduceToNat]
  by_cases q0 : a < (x.plan.cells.length + sumA (fun x => x.2.2.2.1.length) x.plan.cells + x.plan.ways.length + sumA (fun x => x.2.2.2.2.1.length) x.plan.ways + x.plan.slots.length + x.plan.turns.length + sumA (fun x => x.length) x.plan.turns : Nat)
  · rw [s0, if_pos q0]; simp only [Int.reduceNeg, Int.reduceLT, decide_true, If_lit]; try rw [if_pos (by omega)]
  rw [s0, if_neg q0]
  simp only [decide_eq_false (show ¬ a - (x.plan.cells.length + sumA (fun x => x.2.2.2.1.length) x.plan.cells + x.plan.ways.length + sumA (fun x => x.2.2.2.2.1.length) x.plan.ways + x.plan.slots.length + x.plan.turns.length + sumA (fun x => x.length) x.plan.turns : Nat) < 0 by omega), If_lit, hT, eA, Nat.beq, List.toArray, Nat.reduceAdd, Nat.reduceLT, Nat.reduceLeDiff, Int.reduceToNat]
  refine Fun.plain (e1 _ _ (a - (x.plan.cells.length + sumA (fun x => x.2.2.2.1.length) x.plan.cells + x.plan.ways.length + sumA (fun x => x.2.2.2.2.1.length) x.plan.ways + x.plan.slots.length + x.plan.turns.length + sumA (fun x => x.length) x.plan.turns : Nat)) (by omega) (by omega)) rfl rfl rfl rfl ?_
  simp only [hT, eA, Nat.beq, List.toArray, Nat.reduceAdd, Nat.reduceLT, Nat.reduceLeDiff, Int.reduceToNat]
  by_cases q1 : (a - (x.plan.cells.length + sumA (fun x => x.2.2.2.1.length) x.plan.cells + x.plan.ways.length + sumA (fun x => x.2.2.2.2.1.length) x.plan.ways + x.plan.slots.length + x.plan.turns.length + sumA (fun x => x.length) x.plan.turns : Nat)) < (x.nodes.length + sumA (fun x => x.cells.length + sumA (fun x => x.1.2.1.length + x.1.2.2.1.length + x.2.1.length) x.cells + x.out.length + sumA (fun x => x.2.1.length + sumA (fun x => x.length) x.2.1) x.out + x.inn.length + sumA (fun x => x.2.1.length + sumA (fun x => x.length) x.2.1) x.inn + x.outs.length + x.inns.length + x.heard.1.length + x.heard.2.1.length) x.nodes : Nat)
  · rw [s1, if_pos q1]; simp only [Int.reduceNeg, Int.reduceLT, decide_true, If_lit]; try rw [if_pos (by omega)]
  rw [s1, if_neg q1]
  simp only [decide_eq_false (show ¬ (a - (x.plan.cells.length + sumA (fun x => x.2.2.2.1.length) x.plan.cells + x.plan.ways.length + sumA (fun x => x.2.2.2.2.1.length) x.plan.ways + x.plan.slots.length + x.plan.turns.length + sumA (fun x => x.length) x.plan.turns : Nat)) - (x.nodes.length + sumA (fun x => x.cells.length + sumA (fun x => x.1.2.1.length + x.1.2.2.1.length + x.2.1.length) x.cells + x.out.length + sumA (fun x => x.2.1.length + sumA (fun x => x.length) x.2.1) x.out + x.inn.length + sumA (fun x => x.2.1.length + sumA (fun x => x.length) x.2.1) x.inn + x.outs.length + x.inns.length + x.heard.1.length + x.heard.2.1.length) x.nodes : Nat) < 0 by omega), If_lit, hT, eA, Nat.beq, List.toArray, Nat.reduceAdd, Nat.reduceLT, Nat.reduceLeDiff, Int.reduceToNat]
  refine Fun.plain (e2 _ _ ((a - (x.plan.cells.length + sumA (fun x => x.2.2.2.1.length) x.plan.cells + x.plan.ways.length + sumA (fun x => x.2.2.2.2.1.length) x.plan.ways + x.plan.slots.length + x.plan.turns.length + sumA (fun x => x.length) x.plan.turns : Nat)) - (x.nodes.length + sumA (fun x => x.cells.length + sumA (fun x => x.1.2.1.length + x.1.2.2.1.length + x.2.1.length) x.cells + x.out.length + sumA (fun x => x.2.1.length + sumA (fun x => x.length) x.2.1) x.out + x.inn.length + sumA (fun x => x.2.1.length + sumA (fun x => x.length) x.2.1) x.inn + x.outs.length + x.inns.length + x.heard.1.length + x.heard.2.1.length) x.nodes : Nat)) (by omega) (by omega)) rfl rfl rfl rfl ?_
  simp only [hT, eA, Nat.beq, List.toArray, Nat.reduceAdd, Nat.reduceLT, Nat.reduceLeDiff, Int.reduceToNat]
  by_cases q2 : ((a - (x.plan.cells.length + sumA (fun x => x.2.2.2.1.length) x.plan.cells + x.plan.ways.length + sumA (fun x => x.2.2.2.2.1.length) x.plan.ways + x.plan.slots.length + x.plan.turns.length + sumA (fun x => x.length) x.plan.turns : Nat)) - (x.nodes.length + sumA (fun x => x.cells.length + sumA (fun x => x.1.2.1.length + x.1.2.2.1.length + x.2.1.length) x.cells + x.out.length + sumA (fun x => x.2.1.length + sumA (fun x => x.length) x.2.1) x.out + x.inn.length + sumA (fun x => x.2.1.length + sumA (fun x => x.length) x.2.1) x.inn + x.outs.length + x.inns.length + x.heard.1.length + x.heard.2.1.length) x.nodes : Nat)) < (x.log.length + sumA (fun x => x.length) x.log : Nat)
  · rw [s2, if_pos q2]; simp only [Int.reduceNeg, Int.reduceLT, decide_true, If_lit]; try rw [if_pos (by omega)]
  rw [s2, if_neg q2]
  simp only [decide_eq_false (show ¬ ((a - (x.plan.cells.length + sumA (fun x => x.2.2.2.1.length) x.plan.cells + x.plan.ways.length + sumA (fun x => x.2.2.2.2.1.length) x.plan.ways + x.plan.slots.length + x.plan.turns.length + sumA (fun x => x.length) x.plan.turns : Nat)) - (x.nodes.length + sumA (fun x => x.cells.length + sumA (fun x => x.1.2.1.length + x.1.2.2.1.length + x.2.1.length) x.cells + x.out.length + sumA (fun x => x.2.1.length + sumA (fun x => x.length) x.2.1) x.out + x.inn.length + sumA (fun x => x.2.1.length + sumA (fun x => x.length) x.2.1) x.inn + x.outs.length + x.inns.length + x.heard.1.length + x.heard.2.1.length) x.nodes : Nat)) - (x.log.length + sumA (fun x => x.length) x.log : Nat) < 0 by omega), If_lit, hT, eA, Nat.beq, List.toArray, Nat.reduceAdd, Nat.reduceLT, Nat.reduceLeDiff, Int.reduceToNat]
  refine Fun.plain (e3 _ _ (((a - (x.plan.cells.length + sumA (fun x => x.2.2.2.1.length) x.plan.cells + x.plan.ways.length + sumA (fun x => x.2.2.2.2.1.length) x.plan.ways + x.plan.slots.length + x.plan.turns.length + sumA (fun x => x.length) x.plan.turns : Nat)) - (x.nodes.length + sumA (fun x => x.cells.length + sumA (fun x => x.1.2.1.length + x.1.2.2.1.length + x.2.1.length) x.cells + x.out.length + sumA (fun x => x.2.1.length + sumA (fun x => x.length) x.2.1) x.out + x.inn.length + sumA (fun x => x.2.1.length + sumA (fun x => x.length) x.2.1) x.inn + x.outs.length + x.inns.length + x.heard.1.length + x.heard.2.1.length) x.nodes : Nat)) - (x.log.length + sumA (fun x => x.length) x.log : Nat)) (by omega) (by omega)) rfl rfl rfl rfl ?_
  simp only [hT, eA, Nat.beq, List.toArray, Nat.reduceAdd, Nat.reduceLT, Nat.reduceLeDiff, Int.reduceToNat]
  by_cases q3 : (((a - (x.plan.cells.length + sumA (fun x => x.2.2.2.1.length) x.plan.cells + x.plan.ways.length + sumA (fun x => x.2.2.2.2.1.length) x.plan.ways + x.plan.slots.length + x.plan.turns.length + sumA (fun x => x.length) x.plan.turns : Nat)) - (x.nodes.length + sumA (fun x => x.cells.length + sumA (fun x => x.1.2.1.length + x.1.2.2.1.length + x.2.1.length) x.cells + x.out.length + sumA (fun x => x.2.1.length + sumA (fun x => x.length) x.2.1) x.out + x.inn.length + sumA (fun x => x.2.1.length + sumA (fun x => x.length) x.2.1) x.inn + x.outs.length + x.inns.length + x.heard.1.length + x.heard.2.1.length) x.nodes : Nat)) - (x.log.length + sumA (fun x => x.length) x.log : Nat)) < (x.seen.length + sumA (fun x => x.length + sumA (fun x => x.2.2.1.length) x) x.seen : Nat)
  · rw [s3, if_pos q3]; simp only [Int.reduceNeg, Int.reduceLT, decide_true, If_lit]; try rw [if_pos (by omega)]
  rw [s3, if_neg q3]
  simp only [decide_eq_false (show ¬ (((a - (x.plan.cells.length + sumA (fun x => x.2.2.2.1.length) x.plan.cells + x.plan.ways.length + sumA (fun x => x.2.2.2.2.1.length) x.plan.ways + x.plan.slots.length + x.plan.turns.length + sumA (fun x => x.length) x.plan.turns : Nat)) - (x.nodes.length + sumA (fun x => x.cells.length + sumA (fun x => x.1.2.1.length + x.1.2.2.1.length + x.2.1.length) x.cells + x.out.length + sumA (fun x => x.2.1.length + sumA (fun x => x.length) x.2.1) x.out + x.inn.length + sumA (fun x => x.2.1.length + sumA (fun x => x.length) x.2.1) x.inn + x.outs.length + x.inns.length + x.heard.1.length + x.heard.2.1.length) x.nodes : Nat)) - (x.log.length + sumA (fun x => x.length) x.log : Nat)) - (x.seen.length + sumA (fun x => x.length + sumA (fun x => x.2.2.1.length) x) x.seen : Nat) < 0 by omega), If_lit, hT, eA, Nat.beq, List.toArray, Nat.reduceAdd, Nat.reduceLT, Nat.reduceLeDiff, Int.reduceToNat]
  all_goals (first | (rw [if_neg (by omega)]; omega) | omega)
end Go.Proofs.YtjlmfcddbcoimaaGreat.C
