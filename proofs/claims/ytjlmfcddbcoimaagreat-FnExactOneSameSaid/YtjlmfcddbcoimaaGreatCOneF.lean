/- Whether the one machine is ok, by the program's text. -/
import Derived.Test.YtjlmfcddbcoimaaGreatCWldA
set_option maxRecDepth 100000
set_option maxHeartbeats 4000000
set_option linter.unusedSimpArgs false
set_option linter.unusedVariables false
namespace Go.Proofs.YtjlmfcddbcoimaaGreat.C
open Go Go.Av Go.Proofs
theorem TY_oneSizesI {P : Program} (hP : P = Tryz.prog) : ((((fldT P 73 1 = some ((7, (false, 1)))) ∧ (tyT P 64 = some ((false, 1)))) ∧ ((lkT P 64 = 1) ∧ (fldT P 73 0 = some ((0, (true, 7)))))) ∧ (((fldT P 43 0 = some ((0, (false, 1)))) ∧ (tyT P 3 = some ((false, 1)))) ∧ ((fldT P 73 2 = some ((8, (false, 1)))) ∧ ((tyT P 29 = some ((false, 1))) ∧ (lkT P 29 = 1))))) ∧ ((((fldT P 43 3 = some ((3, (false, 1)))) ∧ (tyT P 39 = some ((false, 1)))) ∧ ((lkT P 39 = 1) ∧ ((fldT P 73 3 = some ((9, (false, 1)))) ∧ (tyT P 30 = some ((false, 1)))))) ∧ (((lkT P 30 = 1) ∧ (fldT P 43 4 = some ((4, (false, 1))))) ∧ ((tyT P 40 = some ((false, 1))) ∧ ((lkT P 40 = 1) ∧ (fldT P 73 4 = some ((10, (false, 1)))))))) := by subst hP; refine ⟨⟨⟨⟨?_, ?_⟩, ⟨?_, ?_⟩⟩, ⟨⟨?_, ?_⟩, ⟨?_, ⟨?_, ?_⟩⟩⟩⟩, ⟨⟨⟨?_, ?_⟩, ⟨?_, ⟨?_, ?_⟩⟩⟩, ⟨⟨?_, ?_⟩, ⟨?_, ⟨?_, ?_⟩⟩⟩⟩⟩ <;> kernel_rfl
theorem oneSizesI {P : Program} [Known P] (hP : P = Tryz.prog) (a : VOne) (ha : SzO a) : Fun P 113 [.agg (oneS a)] (.bool (oneSz a)) := by
  refine fun_of (fn := Tryz.f113) (hP ▸ Tryz.func113) (by kernel_rfl) (by kernel_rfl) (by kernel_rfl) (by kernel_rfl) ?_
  have hT := TY_oneSizesI hP
  clear hP
  intro hl
  clear hl
  simp only [oneS, Tryz.f113, hT, eA, Nat.beq, List.toArray, Nat.reduceAdd, Nat.reduceLT, Nat.reduceLeDiff, Int.reduceToNat]
  have hbu : a.up.length ≤ 140737488355328 := by have := ha.u; omega
  have hbc : a.cells.length ≤ 140737488355328 := by have := ha.c; omega
  have hbo : a.out.length ≤ 140737488355328 := by have := ha.o; omega
  have hbi : a.inn.length ≤ 140737488355328 := by have := ha.i; omega
  have hpc : a.plan.cells.length ≤ 140737488355328 := by have := ha.p.c; omega
  have hpw : a.plan.ways.length ≤ 140737488355328 := by have := ha.p.w; omega
  all_goals repeat' first
    | (refine If.mk (fun q => ?_) (fun q => ?_))
    | (show In64 _; exact ⟨by omega, by omega⟩)
    | (with_reducible refine And.intro ?_ ?_)
    | omega
    | assumption
    | (intro _)
  all_goals (unfold oneSz; ((try simp only [Bool.not_eq_true', Bool.not_eq_false'] at *); simp only [*, cond_true, cond_false, decide_true, decide_false, Bool.true_or, Bool.or_true, Bool.false_or, Bool.or_false, Bool.not_true, Bool.not_false, Bool.true_and, Bool.and_true, Bool.false_and, Bool.and_false, Bool.and_self, Bool.or_self, Bool.not_not]; done))
theorem TY_airOkI {P : Program} (hP : P = Tryz.prog) : ((lkT P 165 = 1) ∧ ((elT P 165 = some ((false, (1, 24)))) ∧ (tyT P 79 = some ((false, 1))))) ∧ ((lkT P 79 = 1) ∧ ((elT P 79 = some ((false, (1, 24)))) ∧ (tyT P 149 = some ((false, 1))))) := by subst hP; refine ⟨⟨?_, ⟨?_, ?_⟩⟩, ⟨?_, ⟨?_, ?_⟩⟩⟩ <;> kernel_rfl
theorem airOkI {P : Program} [Known P] (hP : P = Tryz.prog) (l : List (List (List UInt8))) (n : Nat) : Fun P 118 [.sl 1 (l.map airS) listZ, .int .i64 n] (.bool (l.all airB && decide ((l.length : Int) = n))) := by
  refine fun_of (fn := Tryz.f118) (hP ▸ Tryz.func118) (by kernel_rfl) (by kernel_rfl) (by kernel_rfl) (by kernel_rfl) ?_
  have hT := TY_airOkI hP
  have ex := fun m => messageI hP m
  clear hP
  intro hl
  have hl0 : l.length ≤ lim := by simpa only [limL, limA, List.length_map] using hl.1
  clear hl
  simp only [Tryz.f118, hT, eA, Nat.beq, List.toArray, Nat.reduceAdd, Nat.reduceLT, Nat.reduceLeDiff, Int.reduceToNat]
  have hl1 : l.length ≤ 140737488355328 := hl0
  repeat intro _
  refine wpc_loop {k : Nat // k ≤ l.length ∧ (l.take k).all airB = true} (fun k => ⟨[(0, .sl 1 (l.map airS) listZ), (1, .int .i64 n), (9, .sl 1 (l.map airS) listZ), (10, .int .i64 l.length), (11, .int .i64 k.1)], [], 0⟩) (fun k => l.length - k.1) ⟨0, Nat.zero_le _, rfl⟩ (Le.of [] (Nat.zero_le _) ?_ ?_ ?_) ?_
  · simp only [eL, eH, eG, leO, Nat.beq, Nat.reduceLT]
  · simp only [eL, eH, eG, leO, Nat.beq, Nat.reduceLT]; first | done | rfl | simp | omega
  · simp only [eL, eH, eG, leO, Nat.beq, Nat.reduceLT]
  · rintro ⟨k, hk, hp⟩
    by_cases hlt : k < l.length
    · have hf : decide ((k : Int) < l.length) = true := decide_eq_true (by omega)
      have hr1 : ∀ d, (l.map airS).getD k d = airS (l.getD k []) := fun d => getIn airS l k d [] hlt
      have hta := take_all airB l k [] hlt
      have hab := all_bad airB l k [] hlt
      have bad : airB (l.getD k []) = false → false = (l.all airB && decide ((l.length : Int) = n)) := fun h => by rw [hab h, Bool.false_and]
      generalize l.getD k [] = x at *
      simp only [airS] at hr1
      simp only [hT, hf, hr1, Int.toNat_natCast, ↓If_lit, eA, Nat.beq, List.toArray, Nat.reduceAdd, Nat.reduceLT, Nat.reduceLeDiff, Int.reduceToNat]
      repeat' first | (with_reducible refine And.intro ?_ ?_) | omega
      intro hx
      have hx1 : x.length ≤ 140737488355328 := hx
      refine If.mk (fun q1 => bad (by unfold airB; simp at q1; simp; omega)) (fun q1 => ?_)
      have hle : decide ((x.length : Int) ≤ 12) = true := by simp at q1; simp; omega
      repeat intro _
      refine wpc_loop {j : Nat // j ≤ x.length ∧ (x.take j).all msgB = true} (fun j => ⟨[(0, .sl 1 (l.map airS) listZ), (1, .int .i64 n), (9, .sl 1 (l.map airS) listZ), (10, .int .i64 l.length), (11, .int .i64 k), (18, .sl 1 (x.map msgS) msgZ), (19, .int .i64 x.length), (20, .int .i64 j.1)], [], 0⟩) (fun j => x.length - j.1) ⟨0, Nat.zero_le _, rfl⟩ (Le.of [] (Nat.zero_le _) ?_ ?_ ?_) ?_
      · simp only [eL, eH, eG, leO, Nat.beq, Nat.reduceLT]
      · simp only [eL, eH, eG, leO, Nat.beq, Nat.reduceLT]; first | done | rfl | simp | omega
      · simp only [eL, eH, eG, leO, Nat.beq, Nat.reduceLT]
      · rintro ⟨j, hj, hjp⟩
        by_cases hjt : j < x.length
        · have hjf : decide ((j : Int) < x.length) = true := decide_eq_true (by omega)
          have hr2 : ∀ d, (x.map msgS).getD j d = msgS (x.getD j []) := fun d => getIn msgS x j d [] hjt
          have hja := take_all msgB x j [] hjt
          have hjb := all_bad msgB x j [] hjt
          have ex := ex (x.getD j [])
          simp only [msgS] at hr2
          simp only [hT, hjf, hr2, Int.toNat_natCast, ↓If_lit, eA, Nat.beq, List.toArray, Nat.reduceAdd, Nat.reduceLT, Nat.reduceLeDiff, Int.reduceToNat]
          repeat' first | (with_reducible refine And.intro ?_ ?_) | omega
          refine Fun.plain ex rfl rfl rfl rfl ?_
          simp only [hT, ↓If_lit, eA, Nat.beq, List.toArray, Nat.reduceAdd, Nat.reduceLT, Nat.reduceLeDiff, Int.reduceToNat]
          refine If.mk (fun q2 => bad (by simp only [Bool.not_eq_true'] at q2; unfold airB; rw [hjb q2, Bool.and_false])) (fun q2 => ?_)
          simp only [Bool.not_eq_false'] at q2
          refine ⟨show In64 _ from ⟨by omega, by omega⟩, ⟨j + 1, hjt, by rw [hja, hjp, q2]; rfl⟩, by simp only; omega, Le.of [] (Nat.zero_le _) ?_ ?_ ?_⟩
          · simp only [eL, eH, eG, leO, Nat.beq, Nat.reduceLT]
          · simp only [eL, eH, eG, leO, Nat.beq, Nat.reduceLT]; first | done | rfl | simp | omega
          · simp only [eL, eH, eG, leO, Nat.beq, Nat.reduceLT]
        · obtain rfl : j = x.length := by omega
          have hjf : decide ((x.length : Int) < x.length) = false := decide_eq_false (by omega)
          rw [List.take_length] at hjp
          have hok : airB x = true := by unfold airB; rw [hle, hjp]; rfl
          simp only [hT, hjf, ↓If_lit, eA, Nat.beq, List.toArray, Nat.reduceAdd, Nat.reduceLT, Nat.reduceLeDiff, Int.reduceToNat]
          refine ⟨show In64 _ from ⟨by omega, by omega⟩, ⟨k + 1, hlt, by rw [hta, hp, hok]; rfl⟩, by simp only; omega, Le.of [] (Nat.zero_le _) ?_ ?_ ?_⟩
          · simp only [eL, eH, eG, leO, Nat.beq, Nat.reduceLT]
          · simp only [eL, eH, eG, leO, Nat.beq, Nat.reduceLT]; first | done | rfl | simp | omega
          · simp only [eL, eH, eG, leO, Nat.beq, Nat.reduceLT]
    · obtain rfl : k = l.length := by omega
      have hf : decide ((l.length : Int) < l.length) = false := decide_eq_false (by omega)
      rw [List.take_length] at hp
      simp only [hT, hf, ↓If_lit, eA, Nat.beq, List.toArray, Nat.reduceAdd, Nat.reduceLT, Nat.reduceLeDiff, Int.reduceToNat]
      repeat intro _
      rw [hp, Bool.true_and]
end Go.Proofs.YtjlmfcddbcoimaaGreat.C
