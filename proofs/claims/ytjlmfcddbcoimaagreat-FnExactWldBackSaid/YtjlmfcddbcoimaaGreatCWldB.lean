/- Whether worlds are ok, by the program's text. -/
import Derived.Test.YtjlmfcddbcoimaaGreatCWldA
set_option maxRecDepth 100000
set_option maxHeartbeats 4000000
set_option linter.unusedSimpArgs false
set_option linter.unusedVariables false
namespace Go.Proofs.YtjlmfcddbcoimaaGreat.C
open Go Go.Av Go.Proofs
theorem wldHd_eq (w : VWld) : wldHd w = !(!(res w.plan).isNone || (!decide ((w.nodes.length : Int) = w.plan.1) || (decide (w.now < 0) || (decide (20000 < w.now) || decide (12 < (w.log.length : Int)))))) := by
  unfold wldHd nowB
  generalize (res w.plan).isNone = b
  cases b <;> (rw [Bool.eq_iff_iff]; simp; try omega)
theorem TY_wldGoodI {P : Program} (hP : P = Tryz.prog) : ((((P.follows .mixedOrders = true) ∧ (fldT P 86 0 = some ((0, (true, 7))))) ∧ ((tyT P 43 = some ((true, 7))) ∧ ((fldT P 86 1 = some ((7, (false, 1)))) ∧ (tyT P 84 = some ((false, 1)))))) ∧ (((lkT P 84 = 1) ∧ (fldT P 43 0 = some ((0, (false, 1))))) ∧ ((tyT P 3 = some ((false, 1))) ∧ ((fldT P 86 2 = some ((8, (false, 1)))) ∧ (fldT P 86 3 = some ((9, (false, 1)))))))) ∧ ((((tyT P 79 = some ((false, 1))) ∧ (lkT P 79 = 1)) ∧ ((elT P 84 = some ((true, (10, 192)))) ∧ ((elT P 79 = some ((false, (1, 24)))) ∧ (tyT P 149 = some ((false, 1)))))) ∧ (((lkT P 149 = 1) ∧ ((fldT P 86 4 = some ((10, (false, 1)))) ∧ (tyT P 71 = some ((false, 1))))) ∧ ((fldT P 43 3 = some ((3, (false, 1)))) ∧ ((tyT P 39 = some ((false, 1))) ∧ (lkT P 39 = 1))))) := by subst hP; refine ⟨⟨⟨⟨?_, ?_⟩, ⟨?_, ⟨?_, ?_⟩⟩⟩, ⟨⟨?_, ?_⟩, ⟨?_, ⟨?_, ?_⟩⟩⟩⟩, ⟨⟨⟨?_, ?_⟩, ⟨?_, ⟨?_, ?_⟩⟩⟩, ⟨⟨?_, ⟨?_, ?_⟩⟩, ⟨?_, ⟨?_, ?_⟩⟩⟩⟩⟩ <;> kernel_rfl
theorem wldGoodI {P : Program} [Known P] (hP : P = Tryz.prog) (w : VWld) (hw : SzW w) : Fun P 133 [.rp (wldS w)] (.bool (wldB w)) := by
  refine fun_of (fn := Tryz.f133) (hP ▸ Tryz.func133) (by kernel_rfl) (by kernel_rfl) (by kernel_rfl) (by kernel_rfl) ?_
  have hT := TY_wldGoodI hP
  have hm : P.follows .mixedOrders = true := by subst hP; kernel_rfl
  have oi := plnOkI hP w.plan hw.p
  have gd := fun h n hn a => goodI hP w.plan hw.p h n hn a
  have se := seenI hP w.seen w.plan.cells.length
  clear hP
  intro hl
  clear hl
  simp only [wldS, Tryz.f133, hT, eA, Nat.beq, List.toArray, Nat.reduceAdd, Nat.reduceLT, Nat.reduceLeDiff, Int.reduceToNat]
  have hbn : w.nodes.length ≤ 140737488355328 := by have := hw.n; omega
  have hbl : w.log.length ≤ 140737488355328 := by have := hw.l; omega
  have hbs : w.seen.length ≤ 140737488355328 := by have := hw.s; omega
  have hbc : w.plan.cells.length ≤ 140737488355328 := by have := hw.p.c; omega
  have bad : wldHd w = false → false = wldB w := fun h => by unfold wldB; rw [h, Bool.false_and]
  simp only [plnS] at oi
  refine wpc_read [0, 1, 2, 3, 4, 5, 6, 7, 8, 9, 10, 11, 12, 13, 14, 15, 16, 17, 18, 19, 20, 21, 22, 23, 24, 25, 26, 27, 28, 29, 30, 31, 32, 33, 34, 35, 36, 37, 38, 39, 40] hm (by kernel_rfl) ?_
  simp only [hT, ↓If_lit, eT, ↓If_lit, Nat.reduceSub, reduceCtorEq, eA, Nat.beq, List.toArray, Nat.reduceAdd, Nat.reduceLT, Nat.reduceLeDiff, Int.reduceToNat]
  all_goals repeat' first
    | (refine If.mk (fun q => ?_) (fun q => ?_))
    | (show In64 _; exact ⟨by omega, by omega⟩)
    | (with_reducible refine And.intro ?_ ?_)
    | omega
    | (refine Fun.pcall (oi) (by exact rfl) rfl rfl rfl rfl ?_; simp only [hT, Int.toNat_natCast, ↓If_lit, eT, ↓If_lit, Nat.reduceSub, reduceCtorEq, eA, Nat.beq, List.toArray, Nat.reduceAdd, Nat.reduceLT, Nat.reduceLeDiff, Int.reduceToNat])
    | exact hbn
    | exact hbl
    | (intro _)
  all_goals try simp only [Bool.not_eq_true', Bool.not_eq_false'] at *
  all_goals first
    | (refine bad ?_; clear bad; rw [wldHd_eq]; simp only [*, decide_true, decide_false, Bool.true_or, Bool.or_true, Bool.false_or, Bool.or_false, Bool.not_true, Bool.not_false, Bool.true_and, Bool.and_true, Bool.false_and, Bool.and_false, Bool.and_self, Bool.or_self, Bool.not_not]; done)
    | skip
  have hhd : wldHd w = true := by clear bad; rw [wldHd_eq]; simp only [*, decide_true, decide_false, Bool.true_or, Bool.or_true, Bool.false_or, Bool.or_false, Bool.not_true, Bool.not_false, Bool.true_and, Bool.and_true, Bool.false_and, Bool.and_false, Bool.and_self, Bool.or_self, Bool.not_not]; done
  clear bad
  have hh2 := hhd
  unfold wldHd at hh2
  simp only [Bool.and_eq_true, decide_eq_true_eq] at hh2
  obtain ⟨hr0, hlen, _⟩ := hh2
  have hr : res w.plan = none := by simpa using hr0
  have gd := fun k hk => gd hr (w.node k) (hw.ns k hk) k
  refine wpc_loop {k : Nat // k ≤ w.nodes.length ∧ (List.range k).all (nodeAt w) = true} (fun k => ⟨[(0, .rp (wldS w)), (51, .int .i64 w.nodes.length), (52, .int .i64 k.1)], [], 0⟩) (fun k => w.nodes.length - k.1) ⟨0, Nat.zero_le _, rfl⟩ (Le.of [] (Nat.zero_le _) ?_ ?_ ?_) ?_
  · simp only [eL, eH, eG, leO, Nat.beq, Nat.reduceLT]
  · simp only [wldS, eL, eH, eG, leO, Nat.beq, Nat.reduceLT]; first | done | rfl | simp | omega
  · simp only [wldS, eL, eH, eG, leO, Nat.beq, Nat.reduceLT]
  · rintro ⟨k, hk, hp⟩
    by_cases hlt : k < w.nodes.length
    · have hf : decide ((k : Int) < w.nodes.length) = true := decide_eq_true (by omega)
      have hr1 : ∀ d, (w.nodes.map nodS).getD k d = nodS (w.node k) := fun d => getIn nodS w.nodes k d nd0 hlt
      have hta := rall_succ (nodeAt w) k
      have hab := rall_bad (nodeAt w) w.nodes.length k hlt
      have gd := (gd k hlt).rp1 [.sl 10 (w.nodes.map nodS) nodZ, .int .i64 w.now, .sl 1 (w.log.map msgS) msgZ, .sl 1 (w.seen.map seenS) listZ]
      have hhas : has (k : Int) w.plan.1 = true := by unfold has; simp; omega
      have hat : nodeAt w k = goodB w.plan (w.node k) k := rfl
      rw [hhas, Bool.true_and, ← hat] at gd
      simp only [plnS, nodS, List.cons_append, List.nil_append] at gd
      simp only [nodS] at hr1
      simp only [hT, hf, wldS, Int.toNat_natCast, ↓If_lit, eA, Nat.beq, List.toArray, Nat.reduceAdd, Nat.reduceLT, Nat.reduceLeDiff, Int.reduceToNat]
      repeat' first | (with_reducible refine And.intro ?_ ?_) | omega
      refine wpc_read [0, 1, 2, 3, 4, 5, 6, 7, 8, 9, 10, 11] hm (by kernel_rfl) ?_
      simp only [hT, hr1, Int.toNat_natCast, ↓If_lit, eT, ↓If_lit, Nat.reduceSub, reduceCtorEq, eA, Nat.beq, List.toArray, Nat.reduceAdd, Nat.reduceLT, Nat.reduceLeDiff, Int.reduceToNat]
      have hbad : nodeAt w k = false → false = wldB w := fun e => by unfold wldB; rw [hab e]; simp only [Bool.false_and, Bool.and_false]
      all_goals repeat' first
        | (refine If.mk (fun q => ?_) (fun q => ?_))
        | (show In64 _; exact ⟨by omega, by omega⟩)
        | (with_reducible refine And.intro ?_ ?_)
        | omega
        | (refine Fun.pcall (gd) (by exact rfl) rfl rfl rfl rfl ?_; simp only [hT, Int.toNat_natCast, ↓If_lit, eT, ↓If_lit, Nat.reduceSub, reduceCtorEq, eA, Nat.beq, List.toArray, Nat.reduceAdd, Nat.reduceLT, Nat.reduceLeDiff, Int.reduceToNat])
        | (intro _)
      all_goals try simp only [Bool.not_eq_true', Bool.not_eq_false'] at *
      all_goals first
        | exact hbad (by clear hbad; clear hat; simp only [*]; done)
        | (have hok : nodeAt w k = true := by clear hbad; clear hat; simp only [*]; done
           try refine And.intro (show In64 _ from ⟨by omega, by omega⟩) ?_
           refine ⟨⟨k + 1, hlt, by rw [hta, hp, hok]; rfl⟩, by simp only; omega, Le.of [] (Nat.zero_le _) ?_ ?_ ?_⟩
           · simp only [eL, eH, eG, leO, Nat.beq, Nat.reduceLT]
           · simp only [wldS, eL, eH, eG, leO, Nat.beq, Nat.reduceLT]; first | done | rfl | simp | omega
           · simp only [wldS, eL, eH, eG, leO, Nat.beq, Nat.reduceLT])
    · obtain rfl : k = w.nodes.length := by omega
      have hf : decide ((w.nodes.length : Int) < w.nodes.length) = false := decide_eq_false (by omega)
      have hnodes := hp
      simp only [hT, hf, wldS, ↓If_lit, eA, Nat.beq, List.toArray, Nat.reduceAdd, Nat.reduceLT, Nat.reduceLeDiff, Int.reduceToNat]
      repeat intro _
      refine wpc_loop {k : Nat // k ≤ w.log.length ∧ (w.log.take k).all frmB = true} (fun k => ⟨[(0, .rp (wldS w)), (71, .sl 1 (w.log.map msgS) msgZ), (72, .int .i64 w.log.length), (73, .int .i64 k.1)], [], 0⟩) (fun k => w.log.length - k.1) ⟨0, Nat.zero_le _, rfl⟩ (Le.of [] (Nat.zero_le _) ?_ ?_ ?_) ?_
      · simp only [eL, eH, eG, leO, Nat.beq, Nat.reduceLT]
      · simp only [wldS, eL, eH, eG, leO, Nat.beq, Nat.reduceLT]; first | done | rfl | simp | omega
      · simp only [wldS, eL, eH, eG, leO, Nat.beq, Nat.reduceLT]
      · rintro ⟨k, hk, hp⟩
        by_cases hlt : k < w.log.length
        · have hf : decide ((k : Int) < w.log.length) = true := decide_eq_true (by omega)
          have hr1 : ∀ d, (w.log.map msgS).getD k d = msgS (w.log.getD k []) := fun d => getIn msgS w.log k d [] hlt
          have hta := take_all frmB w.log k [] hlt
          have hab := all_bad frmB w.log k [] hlt
          have hat : frmB (w.log.getD k []) = decide (((w.log.getD k []).length : Int) = 24) := rfl
          simp only [msgS] at hr1
          simp only [hT, hf, hr1, wldS, Int.toNat_natCast, ↓If_lit, eA, Nat.beq, List.toArray, Nat.reduceAdd, Nat.reduceLT, Nat.reduceLeDiff, Int.reduceToNat]
          have hbad : frmB (w.log.getD k []) = false → false = wldB w := fun e => by unfold wldB; rw [hab e]; simp only [Bool.false_and, Bool.and_false]
          all_goals repeat' first
            | (refine If.mk (fun q => ?_) (fun q => ?_))
            | (show In64 _; exact ⟨by omega, by omega⟩)
            | (with_reducible refine And.intro ?_ ?_)
            | omega
            | (intro _)
          all_goals try simp only [Bool.not_eq_true', Bool.not_eq_false'] at *
          all_goals first
            | exact hbad (by clear hbad; rw [hat]; simp only [*, decide_true, decide_false, Bool.true_or, Bool.or_true, Bool.false_or, Bool.or_false, Bool.not_true, Bool.not_false, Bool.true_and, Bool.and_true, Bool.false_and, Bool.and_false, Bool.and_self, Bool.or_self, Bool.not_not]; done)
            | (have hok : frmB (w.log.getD k []) = true := by clear hbad; rw [hat]; simp only [*, decide_true, decide_false, Bool.true_or, Bool.or_true, Bool.false_or, Bool.or_false, Bool.not_true, Bool.not_false, Bool.true_and, Bool.and_true, Bool.false_and, Bool.and_false, Bool.and_self, Bool.or_self, Bool.not_not]; done
               try refine And.intro (show In64 _ from ⟨by omega, by omega⟩) ?_
               refine ⟨⟨k + 1, hlt, by rw [hta, hp, hok]; rfl⟩, by simp only; omega, Le.of [] (Nat.zero_le _) ?_ ?_ ?_⟩
               · simp only [eL, eH, eG, leO, Nat.beq, Nat.reduceLT]
               · simp only [wldS, eL, eH, eG, leO, Nat.beq, Nat.reduceLT]; first | done | rfl | simp | omega
               · simp only [wldS, eL, eH, eG, leO, Nat.beq, Nat.reduceLT])
        · obtain rfl : k = w.log.length := by omega
          have hf : decide ((w.log.length : Int) < w.log.length) = false := decide_eq_false (by omega)
          rw [List.take_length] at hp
          simp only [hT, hf, wldS, ↓If_lit, eA, Nat.beq, List.toArray, Nat.reduceAdd, Nat.reduceLT, Nat.reduceLeDiff, Int.reduceToNat]
          refine wpc_read [0, 1, 2, 3, 4, 5, 6, 7, 8, 9, 10, 11] hm (by kernel_rfl) ?_
          simp only [hT, Int.toNat_natCast, ↓If_lit, eT, ↓If_lit, Nat.reduceSub, reduceCtorEq, eA, Nat.beq, List.toArray, Nat.reduceAdd, Nat.reduceLT, Nat.reduceLeDiff, Int.reduceToNat]
          refine ⟨hbc, ?_⟩
          refine Fun.pcall (se) (by exact rfl) rfl rfl rfl rfl ?_; simp only [hT, nneg, decide_true, decide_false, ↓If_lit, Int.cast_ofNat_Int, Int.reduceLT, Int.reduceLE, eT, ↓If_lit, Nat.reduceSub, reduceCtorEq, eA, Nat.beq, List.toArray, Nat.reduceAdd, Nat.reduceLT, Nat.reduceLeDiff, Int.reduceToNat]; (try unfold lim); repeat first | ((with_reducible refine And.intro ?_ ?_); (first | omega | exact ⟨by omega, by omega⟩ | rfl)) | intro _
          unfold wldB; rw [hhd, hnodes, hp]; rfl
theorem TY_wldOkI {P : Program} (hP : P = Tryz.prog) : True := trivial
theorem wldOkI {P : Program} [Known P] (hP : P = Tryz.prog) (w : VWld) (hw : SzW w) : Fun P 42 [.agg (wldS w)] (.bool (wldB w)) := by
  refine fun_of (fn := Tryz.f42) (hP ▸ Tryz.func42) (by kernel_rfl) (by kernel_rfl) (by kernel_rfl) (by kernel_rfl) ?_
  have hT := TY_wldOkI hP
  have e := wldGoodI hP w hw
  clear hP
  intro hl
  clear hl
  simp only [wldS, Tryz.f42, hT, eA, Nat.beq, List.toArray, Nat.reduceAdd, Nat.reduceLT, Nat.reduceLeDiff, Int.reduceToNat]
  simp only [wldS] at e
  refine Fun.lent e (by rfl) (by rfl) rfl rfl rfl ?_
  simp only [hT, nneg, beq_self_eq_true, decide_true, decide_false, ↓If_lit, Int.cast_ofNat_Int, Int.reduceLT, Int.reduceLE, eA, Nat.beq, List.toArray, Nat.reduceAdd, Nat.reduceLT, Nat.reduceLeDiff, Int.reduceToNat]; (try unfold lim); repeat first | ((with_reducible refine And.intro ?_ ?_); (first | omega | exact ⟨by omega, by omega⟩ | rfl)) | intro _
end Go.Proofs.YtjlmfcddbcoimaaGreat.C
