/- Whether lives, halves and nodes are ok, by the program's text. -/
import Derived.Test.YtjlmfcddbcoimaaGreatCNodI
set_option maxRecDepth 100000
set_option maxHeartbeats 4000000
set_option linter.unusedSimpArgs false
set_option linter.unusedVariables false
namespace Go.Proofs.YtjlmfcddbcoimaaGreat.C
open Go Go.Av Go.Proofs
open Nat (reduceAdd reduceLT reduceLeDiff reduceSub)
open Int (reduceToNat)
theorem TY_nodLifeI {P : Program} (hP : P = Tryz.prog) : (((P.follows .mixedOrders = true) ∧ ((fldT P 37 1 = some ((1, (false, 1)))) ∧ (tyT P 3 = some ((false, 1))))) ∧ ((fldT P 37 2 = some ((2, (false, 1)))) ∧ ((fldT P 37 0 = some ((0, (false, 1)))) ∧ (tyT P 4 = some ((false, 1)))))) ∧ (((fldT P 37 8 = some ((8, (true, 2)))) ∧ ((tyT P 35 = some ((true, 2))) ∧ (fldT P 35 0 = some ((0, (false, 1)))))) ∧ (((tyT P 33 = some ((false, 1))) ∧ (lkT P 33 = 1)) ∧ ((fldT P 43 0 = some ((0, (false, 1)))) ∧ (elT P 33 = some ((false, (1, 8))))))) := by subst hP; refine ⟨⟨⟨?_, ⟨?_, ?_⟩⟩, ⟨?_, ⟨?_, ?_⟩⟩⟩, ⟨⟨?_, ⟨?_, ?_⟩⟩, ⟨⟨?_, ?_⟩, ⟨?_, ?_⟩⟩⟩⟩ <;> kernel_rfl
theorem nodLifeI {P : Program} [Known P] (hP : P = Tryz.prog) (p : VPln) (n : VNod) (hn : SzN n) (a : Int) (ha : has a p.1 = true) : Fun P 186 [.rp (plnS p), .rp (nodS n), .int .i64 a] (.bool (lifeB p n a)) := by
  refine fun_of (fn := Tryz.f186) (hP ▸ Tryz.func186) (by kernel_rfl) (by kernel_rfl) (by kernel_rfl) (by kernel_rfl) ?_
  have hT := TY_nodLifeI hP
  have hm : P.follows .mixedOrders = true := by subst hP; kernel_rfl
  have e := hrdOkI hP n.heard
  clear hP
  intro hl
  clear hl
  simp only [plnS, nodS, Tryz.f186, hT, eA, Nat.beq, List.toArray, reduceAdd, reduceLT, reduceLeDiff, reduceToNat]
  simp only [hrdS] at e
  obtain ⟨ha0, ha1⟩ := has_iff ha
  have hb1 : n.heard.1.length ≤ lim := by have := hn.b; unfold lim; omega
  have bad1 : lifeHd n = true → false = lifeB p n a := fun h => by unfold lifeB; rw [h]; rfl
  have bad2 : lifeMid p n a = true → false = lifeB p n a := fun h => by unfold lifeB; rw [h, Bool.not_true, Bool.false_and, Bool.and_false]
  cases hup : n.up
  all_goals try simp only [hup, ↓If_lit, Bool.not_true, Bool.not_false]
  all_goals repeat' (refine If.mk (fun q => ?_) (fun q => ?_))
  all_goals first
    | exact bad1 (by unfold lifeHd; simp only [*, eQ]; done)
    | skip
  all_goals have hhd : lifeHd n = false := by unfold lifeHd; simp only [*, eQ]
  all_goals by_cases hL : (n.heard.1.length : Int) = p.1
  all_goals first
    | (have hd : decide ((n.heard.1.length : Int) = p.1) = true := decide_eq_true hL
       have hg : ∀ d, (n.heard.1.map intE).getD a.toNat d = intE (n.heard.1.getD a.toNat 0) := fun d => getIn intE n.heard.1 a.toNat d 0 (by omega)
       refine wpc_read [0, 1, 2, 3, 4, 5, 6, 7, 8, 9, 10, 11, 12, 13, 14, 15, 16, 17, 18, 19, 20, 21, 22, 23, 24, 25, 26, 27, 28, 29, 30, 31, 32, 33, 34, 35, 36, 37, 38, 39, 40, 41, 42, 43] hm (by kernel_rfl) ?_
       simp only [hT, hd, hg, hup, Bool.not_true, Bool.not_false, intE, ↓If_lit, eT, ↓If_lit, reduceSub, reduceCtorEq, eA, Nat.beq, List.toArray, reduceAdd, reduceLT, reduceLeDiff, reduceToNat]
       refine Fun.pcall (e) (by exact rfl) rfl rfl rfl rfl ?_; simp only [hT, nneg, decide_true, decide_false, ↓If_lit, Int.cast_ofNat_Int, Int.reduceLT, Int.reduceLE, hd, hg, hup, intE, Bool.not_true, Bool.not_false, eT, ↓If_lit, reduceSub, reduceCtorEq, eA, Nat.beq, List.toArray, reduceAdd, reduceLT, reduceLeDiff, reduceToNat]; (try unfold lim); repeat first | ((with_reducible refine And.intro ?_ ?_); (first | omega | exact ⟨by omega, by omega⟩ | rfl)) | intro _)
    | (have hd : decide ((n.heard.1.length : Int) = p.1) = false := decide_eq_false hL
       refine wpc_read [0, 1, 2, 3, 4, 5, 6, 7, 8, 9, 10, 11, 12, 13, 14, 15, 16, 17, 18, 19, 20, 21, 22, 23, 24, 25, 26, 27, 28, 29, 30, 31, 32, 33, 34, 35, 36, 37, 38, 39, 40, 41, 42, 43] hm (by kernel_rfl) ?_
       simp only [hT, hd, hup, Bool.not_false, ↓If_lit, eT, ↓If_lit, reduceSub, reduceCtorEq, eA, Nat.beq, List.toArray, reduceAdd, reduceLT, reduceLeDiff, reduceToNat]
       refine Fun.pcall (e) (by exact rfl) rfl rfl rfl rfl ?_; simp only [hT, nneg, decide_true, decide_false, ↓If_lit, Int.cast_ofNat_Int, Int.reduceLT, Int.reduceLE, hd, hup, Bool.not_true, Bool.not_false, eT, ↓If_lit, reduceSub, reduceCtorEq, eA, Nat.beq, List.toArray, reduceAdd, reduceLT, reduceLeDiff, reduceToNat]; (try unfold lim); repeat first | ((with_reducible refine And.intro ?_ ?_); (first | omega | exact ⟨by omega, by omega⟩ | rfl)) | intro _)
  all_goals unfold lim at hb1
  all_goals repeat' (first | (refine If.mk (fun q => ?_) (fun q => ?_)) | (with_reducible refine And.intro ?_ ?_) | omega)
  all_goals first
    | exact bad2 (by unfold lifeMid; simp only [*, eQ]; done)
    | skip
  all_goals have hmid : lifeMid p n a = false := by unfold lifeMid; simp only [*, eQ]
  all_goals clear bad1 bad2
  all_goals
    try simp only [hT, eA, Nat.beq, List.toArray, reduceAdd, reduceLT, reduceLeDiff, reduceToNat]
    repeat intro _
    refine wpc_loop {k : Nat // k ≤ n.heard.1.length ∧ (n.heard.1.take k).all (lifeAt n) = true} (fun k => ⟨[(1, .rp (nodS n)), (96, intsS n.heard.1), (97, .int .i64 n.heard.1.length), (98, .int .i64 k.1)], [], 0⟩) (fun k => n.heard.1.length - k.1) ⟨0, Nat.zero_le _, rfl⟩ (Le.of [] (Nat.zero_le _) ?_ ?_ ?_) ?_
    · simp only [eL, eH, eG, leO, Nat.beq, reduceLT]
    · simp only [nodS, hup, eL, eH, eG, leO, Nat.beq, reduceLT]; first | done | rfl | simp | omega
    · simp only [nodS, hup, eL, eH, eG, leO, Nat.beq, reduceLT]
    · rintro ⟨k, hk, hp⟩
      by_cases hlt : k < n.heard.1.length
      · have hf : decide ((k : Int) < n.heard.1.length) = true := decide_eq_true (by omega)
        have hr1 : ∀ d, (n.heard.1.map intE).getD k d = intE (n.heard.1.getD k 0) := fun d => getIn intE n.heard.1 k d 0 hlt
        have hta := take_all (lifeAt n) n.heard.1 k 0 hlt
        have hab := all_bad (lifeAt n) n.heard.1 k 0 hlt
        have hat : lifeAt n (n.heard.1.getD k 0) = !(!n.up && !decide (n.heard.1.getD k 0 = 0)) := by unfold lifeAt; rw [Bool.not_and, Bool.not_not, Bool.not_not]
        simp only [hT, hf, hr1, hup, Bool.not_true, Bool.not_false, nodS, intE, Int.toNat_natCast, ↓If_lit, eA, Nat.beq, List.toArray, reduceAdd, reduceLT, reduceLeDiff, reduceToNat]
        (try unfold lim); repeat first | ((with_reducible refine And.intro ?_ ?_); (first | omega | exact ⟨by omega, by omega⟩ | rfl)) | intro _
        have hbad : lifeAt n (n.heard.1.getD k 0) = false → false = lifeB p n a := fun e => by unfold lifeB; rw [hab e, Bool.and_false, Bool.and_false]
        repeat' (refine If.mk (fun q => ?_) (fun q => ?_))
        all_goals first
          | exact hbad (by rw [hat]; simp only [*, eQ]; done)
          | (have hok : lifeAt n (n.heard.1.getD k 0) = true := by rw [hat]; simp only [*, eQ]; done
             try refine And.intro (show In64 _ from ⟨by omega, by omega⟩) ?_
             refine ⟨⟨k + 1, hlt, by rw [hta, hp, hok]; rfl⟩, by simp only; omega, Le.of [] (Nat.zero_le _) ?_ ?_ ?_⟩
             · simp only [eL, eH, eG, leO, Nat.beq, reduceLT]
             · simp only [nodS, hup, eL, eH, eG, leO, Nat.beq, reduceLT]; first | done | rfl | simp | omega
             · simp only [nodS, hup, eL, eH, eG, leO, Nat.beq, reduceLT])
      · obtain rfl : k = n.heard.1.length := by omega
        have hf : decide ((n.heard.1.length : Int) < n.heard.1.length) = false := decide_eq_false (by omega)
        rw [List.take_length] at hp
        simp only [hT, hf, ↓If_lit, eA, Nat.beq, List.toArray, reduceAdd, reduceLT, reduceLeDiff, reduceToNat]
        simp [lifeB, hhd, hmid, hp]
end Go.Proofs.YtjlmfcddbcoimaaGreat.C
