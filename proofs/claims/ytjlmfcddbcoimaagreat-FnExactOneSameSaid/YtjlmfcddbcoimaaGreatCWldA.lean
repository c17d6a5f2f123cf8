/- Whether worlds are ok, by the program's text. -/
import Derived.Test.YtjlmfcddbcoimaaGreatCOneD
import Derived.Test.YtjlmfcddbcoimaaGreatCNodU
set_option maxRecDepth 100000
set_option maxHeartbeats 4000000
set_option linter.unusedSimpArgs false
set_option linter.unusedVariables false
namespace Go.Proofs.YtjlmfcddbcoimaaGreat.C
open Go Go.Av Go.Proofs
theorem TY_seenI {P : Program} (hP : P = Tryz.prog) : ((lkT P 71 = 1) ∧ ((elT P 71 = some ((false, (1, 24)))) ∧ (tyT P 143 = some ((false, 1))))) ∧ (((lkT P 143 = 1) ∧ (elT P 143 = some ((true, (3, 40))))) ∧ ((tyT P 249 = some ((true, 3))) ∧ (zeroT P 249 = some (((.int .i64 0) :: ((.int .i64 0) :: (.nils :: []))))))) := by subst hP; refine ⟨⟨?_, ⟨?_, ?_⟩⟩, ⟨⟨?_, ?_⟩, ⟨?_, ?_⟩⟩⟩ <;> kernel_rfl
theorem seenI {P : Program} [Known P] (hP : P = Tryz.prog) (l : List (List VSig)) (n : Nat) : Fun P 119 [.sl 1 (l.map seenS) listZ, .int .i64 n] (.bool (seenAll l n)) := by
  refine fun_of (fn := Tryz.f119) (hP ▸ Tryz.func119) (by kernel_rfl) (by kernel_rfl) (by kernel_rfl) (by kernel_rfl) ?_
  have hT := TY_seenI hP
  have ex := fun s => sightI hP s
  clear hP
  intro hl
  have hl0 : l.length ≤ lim := by simpa only [limL, limA, List.length_map] using hl.1
  clear hl
  simp only [Tryz.f119, hT, eA, Nat.beq, List.toArray, Nat.reduceAdd, Nat.reduceLT, Nat.reduceLeDiff, Int.reduceToNat]
  have hl1 : l.length ≤ 140737488355328 := hl0
  repeat intro _
  refine If.mk (fun q => by simp only [Bool.not_eq_true'] at q; unfold seenAll; rw [q]; rfl) (fun q => ?_)
  simp only [Bool.not_eq_false'] at q
  repeat intro _
  refine wpc_loop {k : Nat // k ≤ l.length ∧ (l.take k).all seenB = true} (fun k => ⟨[(13, .sl 1 (l.map seenS) listZ), (14, .int .i64 l.length), (15, .int .i64 k.1)], [], 0⟩) (fun k => l.length - k.1) ⟨0, Nat.zero_le _, rfl⟩ (Le.of [] (Nat.zero_le _) ?_ ?_ ?_) ?_
  · simp only [eL, eH, eG, leO, Nat.beq, Nat.reduceLT]
  · simp only [eL, eH, eG, leO, Nat.beq, Nat.reduceLT]; first | done | rfl | simp | omega
  · simp only [eL, eH, eG, leO, Nat.beq, Nat.reduceLT]
  · rintro ⟨k, hk, hp⟩
    by_cases hlt : k < l.length
    · have hf : decide ((k : Int) < l.length) = true := decide_eq_true (by omega)
      have hr1 : ∀ d, (l.map seenS).getD k d = seenS (l.getD k []) := fun d => getIn seenS l k d [] hlt
      have hta := take_all seenB l k [] hlt
      have hab := all_bad seenB l k [] hlt
      have bad : seenB (l.getD k []) = false → false = seenAll l n := fun h => by unfold seenAll; rw [hab h, Bool.and_false]
      generalize l.getD k [] = x at *
      simp only [seenS] at hr1
      simp only [hT, hf, hr1, Int.toNat_natCast, ↓If_lit, eA, Nat.beq, List.toArray, Nat.reduceAdd, Nat.reduceLT, Nat.reduceLeDiff, Int.reduceToNat]
      repeat' first | (with_reducible refine And.intro ?_ ?_) | omega
      intro hx
      have hx1 : x.length ≤ 140737488355328 := hx
      refine If.mk (fun q1 => bad (by unfold seenB; simp at q1; simp; omega)) (fun q1 => ?_)
      have hle : decide ((x.length : Int) ≤ 120) = true := by simp at q1; simp; omega
      repeat intro _
      refine wpc_loop {j : Nat // j ≤ x.length ∧ (x.take j).all sigB = true} (fun j => ⟨[(13, .sl 1 (l.map seenS) listZ), (14, .int .i64 l.length), (15, .int .i64 k), (22, .sl 3 (x.map sigS) sigZ), (23, .int .i64 x.length), (24, .int .i64 j.1)], [], 0⟩) (fun k => x.length - k.1) ⟨0, Nat.zero_le _, rfl⟩ (Le.of [] (Nat.zero_le _) ?_ ?_ ?_) ?_
      · simp only [eL, eH, eG, leO, Nat.beq, Nat.reduceLT]
      · simp only [eL, eH, eG, leO, Nat.beq, Nat.reduceLT]; first | done | rfl | simp | omega
      · simp only [eL, eH, eG, leO, Nat.beq, Nat.reduceLT]
      · rintro ⟨j, hj, hjp⟩
        by_cases hjt : j < x.length
        · have hjf : decide ((j : Int) < x.length) = true := decide_eq_true (by omega)
          have hr2 : ∀ d, (x.map sigS).getD j d = sigS (x.getD j sig0) := fun d => getIn sigS x j d sig0 hjt
          have hja := take_all sigB x j sig0 hjt
          have hjb := all_bad sigB x j sig0 hjt
          have ex := ex (x.getD j sig0)
          simp only [sigS] at ex hr2
          simp only [hT, hjf, hr2, Int.toNat_natCast, ↓If_lit, eA, Nat.beq, List.toArray, Nat.reduceAdd, Nat.reduceLT, Nat.reduceLeDiff, Int.reduceToNat]
          repeat' first | (with_reducible refine And.intro ?_ ?_) | omega
          refine Fun.plain ex rfl rfl rfl rfl ?_
          simp only [hT, ↓If_lit, eA, Nat.beq, List.toArray, Nat.reduceAdd, Nat.reduceLT, Nat.reduceLeDiff, Int.reduceToNat]
          refine If.mk (fun q2 => bad (by simp only [Bool.not_eq_true'] at q2; unfold seenB; rw [hjb q2, Bool.and_false])) (fun q2 => ?_)
          simp only [Bool.not_eq_false'] at q2
          refine ⟨show In64 _ from ⟨by omega, by omega⟩, ⟨j + 1, hjt, by rw [hja, hjp, q2]; rfl⟩, by simp only; omega, Le.of [] (Nat.zero_le _) ?_ ?_ ?_⟩
          · simp only [eL, eH, eG, leO, Nat.beq, Nat.reduceLT]
          · simp only [eL, eH, eG, leO, Nat.beq, Nat.reduceLT]; first | done | rfl | simp | omega
          · simp only [eL, eH, eG, leO, Nat.beq, Nat.reduceLT]
        · obtain rfl : j = x.length := by omega
          have hjf : decide ((x.length : Int) < x.length) = false := decide_eq_false (by omega)
          rw [List.take_length] at hjp
          have hok : seenB x = true := by unfold seenB; rw [hle, hjp]; rfl
          simp only [hT, hjf, ↓If_lit, eA, Nat.beq, List.toArray, Nat.reduceAdd, Nat.reduceLT, Nat.reduceLeDiff, Int.reduceToNat]
          refine ⟨show In64 _ from ⟨by omega, by omega⟩, ⟨k + 1, hlt, by rw [hta, hp, hok]; rfl⟩, by simp only; omega, Le.of [] (Nat.zero_le _) ?_ ?_ ?_⟩
          · simp only [eL, eH, eG, leO, Nat.beq, Nat.reduceLT]
          · simp only [eL, eH, eG, leO, Nat.beq, Nat.reduceLT]; first | done | rfl | simp | omega
          · simp only [eL, eH, eG, leO, Nat.beq, Nat.reduceLT]
    · obtain rfl : k = l.length := by omega
      have hf : decide ((l.length : Int) < l.length) = false := decide_eq_false (by omega)
      rw [List.take_length] at hp
      simp only [hT, hf, ↓If_lit, eA, Nat.beq, List.toArray, Nat.reduceAdd, Nat.reduceLT, Nat.reduceLeDiff, Int.reduceToNat]
      repeat intro _
      unfold seenAll; rw [q, hp]; rfl
end Go.Proofs.YtjlmfcddbcoimaaGreat.C
