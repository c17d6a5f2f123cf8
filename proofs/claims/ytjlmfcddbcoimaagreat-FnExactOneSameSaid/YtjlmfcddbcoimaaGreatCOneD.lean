/- Whether sights and what cells have seen are ok, by both texts. -/
import Derived.Test.YtjlmfcddbcoimaaGreatCOneC
set_option maxRecDepth 100000
set_option maxHeartbeats 4000000
set_option linter.unusedSimpArgs false
set_option linter.unusedVariables false
namespace Go.Proofs.YtjlmfcddbcoimaaGreat.C
open Go Go.Av Go.Proofs
theorem TY_sightI {P : Program} (hP : P = Tryz.prog) : (((tyT P 249 = some ((true, 3))) ∧ ((itT P 290 = true) ∧ (ncT P 294 = true))) ∧ ((zeroA P 294 = some ((.agg ((.int .i64 0) :: (.nils :: []))))) ∧ ((zeroT P 294 = some (((.int .i64 0) :: (.nils :: [])))) ∧ (tyT P 294 = some ((true, 2)))))) ∧ (((fldT P 294 0 = some ((0, (false, 1)))) ∧ ((tyT P 3 = some ((false, 1))) ∧ (ncT P 296 = true))) ∧ (((zeroA P 296 = some ((.agg ((.int .i64 0) :: (.nils :: []))))) ∧ (zeroT P 296 = some (((.int .i64 0) :: (.nils :: []))))) ∧ ((tyT P 296 = some ((true, 2))) ∧ (fldT P 296 0 = some ((0, (false, 1))))))) := by subst hP; refine ⟨⟨⟨?_, ⟨?_, ?_⟩⟩, ⟨?_, ⟨?_, ?_⟩⟩⟩, ⟨⟨?_, ⟨?_, ?_⟩⟩, ⟨⟨?_, ?_⟩, ⟨?_, ?_⟩⟩⟩⟩ <;> kernel_rfl
theorem sightI {P : Program} [Known P] (hP : P = Tryz.prog) (s : VSig) : Fun P 205 [.agg (sigS s)] (.bool (sigB s)) := by
  refine fun_of (fn := Tryz.f205) (hP ▸ Tryz.func205) (by kernel_rfl) (by kernel_rfl) (by kernel_rfl) (by kernel_rfl) ?_
  have hT := TY_sightI hP
  have hM1 : mthT P 294 "loop.example/casemate/impl.bytes" = some (342, none) := by subst hP; kernel_rfl
  have hM2 : mthT P 296 "loop.example/casemate/impl.bytes" = some (343, none) := by subst hP; kernel_rfl
  have kb := byKind hP s
  have wb := fun w m => wayBytes hP w m
  have nb := fun w m => noneBytes hP w m
  have mb := fun m => messageI hP m
  clear hP
  intro hl
  clear hl
  simp only [sigS, Tryz.f205, hT, eA, Nat.beq, List.toArray, Nat.reduceAdd, Nat.reduceLT, Nat.reduceLeDiff, Int.reduceToNat]
  simp only [sigS] at kb
  unfold kindAV at kb
  unfold sigB
  cases hw : (decide (1 ≤ s.1) && decide (s.1 ≤ 4)) with
  | true =>
    rw [hw, cond_true] at kb
    rw [cond_true]
    all_goals repeat' first
      | (refine If.mk (fun q => ?_) (fun q => ?_))
      | (show In64 _; exact ⟨by omega, by omega⟩)
      | (with_reducible refine And.intro ?_ ?_)
      | omega
      | (refine Fun.plain (kb) rfl rfl rfl rfl ?_; simp only [hT, Int.cast_ofNat_Int, Int.toNat_natCast, ↓If_lit, eA, Nat.beq, List.toArray, Nat.reduceAdd, Nat.reduceLT, Nat.reduceLeDiff, Int.reduceToNat])
      | (refine ⟨_, _, meth_of hM1 (wb 0 []).en, Fun.plain (wb _ _) rfl rfl rfl rfl ?_⟩; simp only [hT, ↓If_lit, eA, Nat.beq, List.toArray, Nat.reduceAdd, Nat.reduceLT, Nat.reduceLeDiff, Int.reduceToNat])
      | (refine Fun.plain (mb _) rfl rfl rfl rfl ?_; simp only [hT, Int.cast_ofNat_Int, Int.toNat_natCast, ↓If_lit, eA, Nat.beq, List.toArray, Nat.reduceAdd, Nat.reduceLT, Nat.reduceLeDiff, Int.reduceToNat])
      | (intro _)
    all_goals first | done | rfl | ((try simp only [Bool.not_eq_true', Bool.not_eq_false'] at *); simp only [*, cond_true, cond_false, decide_true, decide_false, Bool.true_or, Bool.or_true, Bool.false_or, Bool.or_false, Bool.not_true, Bool.not_false, Bool.true_and, Bool.and_true, Bool.false_and, Bool.and_false, Bool.and_self, Bool.or_self, Bool.not_not]; done)
  | false =>
    rw [hw, cond_false] at kb
    rw [cond_false]
    cases hn : (decide (5 ≤ s.1) && decide (s.1 ≤ 10)) with
    | true =>
      rw [hn, cond_true] at kb
      rw [Bool.and_eq_true] at hn
      obtain ⟨hn1, hn2⟩ := hn
      rw [hn1, hn2]
      all_goals repeat' first
        | (refine If.mk (fun q => ?_) (fun q => ?_))
        | (show In64 _; exact ⟨by omega, by omega⟩)
        | (with_reducible refine And.intro ?_ ?_)
        | omega
        | (refine Fun.plain (kb) rfl rfl rfl rfl ?_; simp only [hT, Int.cast_ofNat_Int, Int.toNat_natCast, ↓If_lit, eA, Nat.beq, List.toArray, Nat.reduceAdd, Nat.reduceLT, Nat.reduceLeDiff, Int.reduceToNat])
        | (refine ⟨_, _, meth_of hM2 (nb 0 []).en, Fun.plain (nb _ _) rfl rfl rfl rfl ?_⟩; simp only [hT, ↓If_lit, eA, Nat.beq, List.toArray, Nat.reduceAdd, Nat.reduceLT, Nat.reduceLeDiff, Int.reduceToNat])
        | (refine Fun.plain (mb _) rfl rfl rfl rfl ?_; simp only [hT, Int.cast_ofNat_Int, Int.toNat_natCast, ↓If_lit, eA, Nat.beq, List.toArray, Nat.reduceAdd, Nat.reduceLT, Nat.reduceLeDiff, Int.reduceToNat])
        | (intro _)
      all_goals first | done | rfl | ((try simp only [Bool.not_eq_true', Bool.not_eq_false'] at *); simp only [*, cond_true, cond_false, decide_true, decide_false, Bool.true_or, Bool.or_true, Bool.false_or, Bool.or_false, Bool.not_true, Bool.not_false, Bool.true_and, Bool.and_true, Bool.false_and, Bool.and_false, Bool.and_self, Bool.or_self, Bool.not_not]; done)
    | false =>
      rw [hn, cond_false] at kb
      all_goals repeat' first
        | (refine If.mk (fun q => ?_) (fun q => ?_))
        | (show In64 _; exact ⟨by omega, by omega⟩)
        | (with_reducible refine And.intro ?_ ?_)
        | omega
        | (refine Fun.plain (kb) rfl rfl rfl rfl ?_; simp only [hT, Int.cast_ofNat_Int, Int.toNat_natCast, ↓If_lit, eA, Nat.beq, List.toArray, Nat.reduceAdd, Nat.reduceLT, Nat.reduceLeDiff, Int.reduceToNat])
        | (intro _)
      all_goals first | done | (rw [← Bool.and_assoc, hn]; rfl)
theorem TY_sightS {P : Program} (hP : P = Tryz.prog) : ((fldT P 249 0 = some ((0, (false, 1)))) ∧ (tyT P 3 = some ((false, 1)))) ∧ ((fldT P 249 1 = some ((1, (false, 1)))) ∧ ((fldT P 249 2 = some ((2, (false, 1)))) ∧ (tyT P 149 = some ((false, 1))))) := by subst hP; refine ⟨⟨?_, ?_⟩, ⟨?_, ⟨?_, ?_⟩⟩⟩ <;> kernel_rfl
theorem sightS {P : Program} [Known P] (hP : P = Tryz.prog) (s : VSig) : Fun P 198 [.agg (sigS s)] (.bool (sigB s)) := by
  refine fun_of (fn := Tryz.f198) (hP ▸ Tryz.func198) (by kernel_rfl) (by kernel_rfl) (by kernel_rfl) (by kernel_rfl) ?_
  have hT := TY_sightS hP
  have l1 := fun x a b => l1In hP x a b
  have mb := fun m => messageS hP m
  clear hP
  intro hl
  clear hl
  simp only [sigS, Tryz.f198, hT, eA, Nat.beq, List.toArray, Nat.reduceAdd, Nat.reduceLT, Nat.reduceLeDiff, Int.reduceToNat]
  rw [show sigB s = ((decide (1 ≤ s.1) && decide (s.1 ≤ 10)) && ((decide (0 ≤ s.2.1) && decide (s.2.1 ≤ 9)) && (msgB s.2.2.1 && (decide (s.1 ≤ 4) || decide (s.2.1 = 0))))) from by
    unfold sigB
    generalize msgB s.2.2.1 = bm
    cases hw : (decide (1 ≤ s.1) && decide (s.1 ≤ 4)) <;> simp only [cond_true, cond_false] <;> cases bm <;> (rw [Bool.eq_iff_iff]; simp at hw ⊢; try omega)]
  all_goals repeat' first
    | (refine If.mk (fun q => ?_) (fun q => ?_))
    | (show In64 _; exact ⟨by omega, by omega⟩)
    | (with_reducible refine And.intro ?_ ?_)
    | omega
    | (refine Fun.plain (l1 _ _ _) rfl rfl rfl rfl ?_; simp only [hT, Int.cast_ofNat_Int, Int.toNat_natCast, ↓If_lit, eA, Nat.beq, List.toArray, Nat.reduceAdd, Nat.reduceLT, Nat.reduceLeDiff, Int.reduceToNat])
    | (refine Fun.plain (mb _) rfl rfl rfl rfl ?_; simp only [hT, Int.cast_ofNat_Int, Int.toNat_natCast, ↓If_lit, eA, Nat.beq, List.toArray, Nat.reduceAdd, Nat.reduceLT, Nat.reduceLeDiff, Int.reduceToNat])
    | (intro _)
  all_goals ((try simp only [Bool.not_eq_true', Bool.not_eq_false'] at *); simp only [*, cond_true, cond_false, decide_true, decide_false, Bool.true_or, Bool.or_true, Bool.false_or, Bool.or_false, Bool.not_true, Bool.not_false, Bool.true_and, Bool.and_true, Bool.false_and, Bool.and_false, Bool.and_self, Bool.or_self, Bool.not_not]; done)
theorem TY_seenS1 {P : Program} (hP : P = Tryz.prog) : (lkT P 143 = 1) ∧ ((elT P 143 = some ((true, (3, 40)))) ∧ (tyT P 249 = some ((true, 3)))) := by subst hP; refine ⟨?_, ⟨?_, ?_⟩⟩ <;> kernel_rfl
theorem seenS1 {P : Program} [Known P] (hP : P = Tryz.prog) (l : List VSig) : Fun P 108 [.sl 3 (l.map sigS) sigZ] (.bool (seenB l)) := by
  refine fun_of (fn := Tryz.f108) (hP ▸ Tryz.func108) (by kernel_rfl) (by kernel_rfl) (by kernel_rfl) (by kernel_rfl) ?_
  have hT := TY_seenS1 hP
  have ex := fun s => sightS hP s
  clear hP
  intro hl
  have hl0 : l.length ≤ lim := by simpa only [limL, limA, List.length_map, and_true] using hl
  clear hl
  simp only [Tryz.f108, hT, eA, Nat.beq, List.toArray, Nat.reduceAdd, Nat.reduceLT, Nat.reduceLeDiff, Int.reduceToNat]
  have hl1 : l.length ≤ 140737488355328 := hl0
  have bad : decide ((l.length : Int) ≤ 120) = false → false = seenB l := fun h => by unfold seenB; rw [h]; rfl
  repeat intro _
  refine If.mk (fun q => bad (by simp at q; simp; omega)) (fun q => ?_)
  have hle : decide ((l.length : Int) ≤ 120) = true := by simp at q; simp; omega
  clear bad
  refine wpc_loop {k : Nat // k ≤ l.length ∧ (l.take k).all sigB = true} (fun k => ⟨[(0, .sl 3 (l.map sigS) sigZ), (3, .int .i64 k.1)], [], 0⟩) (fun k => l.length - k.1) ⟨0, Nat.zero_le _, rfl⟩ (Le.of [] (Nat.zero_le _) ?_ ?_ ?_) ?_
  · simp only [eL, eH, eG, leO, Nat.beq, Nat.reduceLT]
  · simp only [eL, eH, eG, leO, Nat.beq, Nat.reduceLT]; first | done | rfl | simp | omega
  · simp only [eL, eH, eG, leO, Nat.beq, Nat.reduceLT]
  · rintro ⟨k, hk, hp⟩
    by_cases hlt : k < l.length
    · have hf : decide ((k : Int) < l.length) = true := decide_eq_true (by omega)
      have hr1 : ∀ d, (l.map sigS).getD k d = sigS (l.getD k sig0) := fun d => getIn sigS l k d sig0 hlt
      have hta := take_all sigB l k sig0 hlt
      have hab := all_bad sigB l k sig0 hlt
      have ex := ex (l.getD k sig0)
      simp only [sigS] at ex hr1
      simp only [hT, hf, hr1, Int.toNat_natCast, ↓If_lit, eA, Nat.beq, List.toArray, Nat.reduceAdd, Nat.reduceLT, Nat.reduceLeDiff, Int.reduceToNat]
      repeat intro _
      (try unfold lim); repeat first | ((with_reducible refine And.intro ?_ ?_); (first | omega | exact ⟨by omega, by omega⟩ | rfl)) | intro _
      have hbad : sigB (l.getD k sig0) = false → false = seenB l := fun e => by unfold seenB; rw [hab e, Bool.and_false]
      all_goals repeat' first
        | (refine If.mk (fun q => ?_) (fun q => ?_))
        | (show In64 _; exact ⟨by omega, by omega⟩)
        | (with_reducible refine And.intro ?_ ?_)
        | omega
        | (refine Fun.plain (ex) rfl rfl rfl rfl ?_; simp only [hT, Int.cast_ofNat_Int, Int.toNat_natCast, ↓If_lit, eA, Nat.beq, List.toArray, Nat.reduceAdd, Nat.reduceLT, Nat.reduceLeDiff, Int.reduceToNat])
        | (intro _)
      all_goals try simp only [Bool.not_eq_true', Bool.not_eq_false'] at *
      all_goals first
        | exact hbad (by clear hbad; simp only [*]; done)
        | (have hok : sigB (l.getD k sig0) = true := by clear hbad; simp only [*]; done
           try refine And.intro (show In64 _ from ⟨by omega, by omega⟩) ?_
           refine ⟨⟨k + 1, hlt, by rw [hta, hp, hok]; rfl⟩, by simp only; omega, Le.of [] (Nat.zero_le _) ?_ ?_ ?_⟩
           · simp only [eL, eH, eG, leO, Nat.beq, Nat.reduceLT]
           · simp only [eL, eH, eG, leO, Nat.beq, Nat.reduceLT]; first | done | rfl | simp | omega
           · simp only [eL, eH, eG, leO, Nat.beq, Nat.reduceLT])
    · obtain rfl : k = l.length := by omega
      have hf : decide ((l.length : Int) < l.length) = false := decide_eq_false (by omega)
      rw [List.take_length] at hp
      simp only [hT, hf, ↓If_lit, eA, Nat.beq, List.toArray, Nat.reduceAdd, Nat.reduceLT, Nat.reduceLeDiff, Int.reduceToNat]
      repeat intro _
      unfold seenB; rw [hle, hp]; rfl
end Go.Proofs.YtjlmfcddbcoimaaGreat.C
