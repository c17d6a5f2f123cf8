/- Whether worlds are ok, by the given text. -/
import Derived.Test.YtjlmfcddbcoimaaGreatCOneD
import Derived.Test.YtjlmfcddbcoimaaGreatCNodY
set_option maxRecDepth 100000
set_option maxHeartbeats 4000000
set_option linter.unusedSimpArgs false
set_option linter.unusedVariables false
namespace Go.Proofs.YtjlmfcddbcoimaaGreat.C
open Go Go.Av Go.Proofs
theorem TY_wldOkS {P : Program} (hP : P = Tryz.prog) : ((((P.follows .mixedOrders = true) ∧ ((fldT P 86 0 = some ((0, (true, 7)))) ∧ (tyT P 43 = some ((true, 7))))) ∧ ((fldT P 86 1 = some ((7, (false, 1)))) ∧ ((tyT P 84 = some ((false, 1))) ∧ (lkT P 84 = 1)))) ∧ (((fldT P 43 0 = some ((0, (false, 1)))) ∧ ((tyT P 3 = some ((false, 1))) ∧ (fldT P 86 2 = some ((8, (false, 1)))))) ∧ ((fldT P 86 3 = some ((9, (false, 1)))) ∧ ((tyT P 79 = some ((false, 1))) ∧ (lkT P 79 = 1))))) ∧ ((((fldT P 86 4 = some ((10, (false, 1)))) ∧ ((tyT P 71 = some ((false, 1))) ∧ (lkT P 71 = 1))) ∧ ((fldT P 43 3 = some ((3, (false, 1)))) ∧ ((tyT P 39 = some ((false, 1))) ∧ (lkT P 39 = 1)))) ∧ (((elT P 84 = some ((true, (10, 192)))) ∧ ((tyT P 37 = some ((true, 10))) ∧ (elT P 79 = some ((false, (1, 24)))))) ∧ (((tyT P 149 = some ((false, 1))) ∧ (lkT P 149 = 1)) ∧ ((elT P 71 = some ((false, (1, 24)))) ∧ (tyT P 143 = some ((false, 1))))))) := by subst hP; refine ⟨⟨⟨⟨?_, ⟨?_, ?_⟩⟩, ⟨?_, ⟨?_, ?_⟩⟩⟩, ⟨⟨?_, ⟨?_, ?_⟩⟩, ⟨?_, ⟨?_, ?_⟩⟩⟩⟩, ⟨⟨⟨?_, ⟨?_, ?_⟩⟩, ⟨?_, ⟨?_, ?_⟩⟩⟩, ⟨⟨?_, ⟨?_, ?_⟩⟩, ⟨⟨?_, ?_⟩, ⟨?_, ?_⟩⟩⟩⟩⟩ <;> kernel_rfl
theorem wldOkS {P : Program} [Known P] (hP : P = Tryz.prog) (w : VWld) (hw : SzW w) : Fun P 40 [.agg (wldS w)] (.bool (wldB w)) := by
  refine fun_of (fn := Tryz.f40) (hP ▸ Tryz.func40) (by kernel_rfl) (by kernel_rfl) (by kernel_rfl) (by kernel_rfl) ?_
  have hT := TY_wldOkS hP
  have hm : P.follows .mixedOrders = true := by subst hP; kernel_rfl
  have oi := plnOkS hP w.plan hw.p
  have gd := fun h n hn a ha => okS hP w.plan hw.p h n hn a ha
  have se := fun l => seenS1 hP l
  have l1 := fun x a b => l1In hP x a b
  clear hP
  intro hl
  clear hl
  simp only [wldS, Tryz.f40, hT, eA, Nat.beq, List.toArray, Nat.reduceAdd, Nat.reduceLT, Nat.reduceLeDiff, Int.reduceToNat]
  have hbn : w.nodes.length ≤ 140737488355328 := by have := hw.n; omega
  have hbl : w.log.length ≤ 140737488355328 := by have := hw.l; omega
  have hbs : w.seen.length ≤ 140737488355328 := by have := hw.s; omega
  have hbc : w.plan.cells.length ≤ 140737488355328 := by have := hw.p.c; omega
  have bad : wldHd w = false → false = wldB w := fun h => by unfold wldB; rw [h, Bool.false_and]
  have bad2 : decide ((w.seen.length : Int) = w.plan.cells.length) = false → false = wldB w := fun h => by unfold wldB seenAll; rw [h]; simp only [Bool.false_and, Bool.and_false]
  have hde : wldHd w = ((res w.plan).isNone && (decide ((w.nodes.length : Int) = w.plan.1) && ((decide (0 ≤ w.now) && decide (w.now ≤ 20000)) && !decide (12 < (w.log.length : Int))))) := by
    unfold wldHd nowB
    have : decide ((w.log.length : Int) ≤ 12) = !decide (12 < (w.log.length : Int)) := by rw [Bool.eq_iff_iff]; simp
    rw [this]
  simp only [plnS] at oi
  all_goals repeat' first
    | (refine If.mk (fun q => ?_) (fun q => ?_))
    | (show In64 _; exact ⟨by omega, by omega⟩)
    | (with_reducible refine And.intro ?_ ?_)
    | omega
    | (refine Fun.plain (oi) rfl rfl rfl rfl ?_; simp only [hT, Int.cast_ofNat_Int, Int.toNat_natCast, ↓If_lit, eA, Nat.beq, List.toArray, Nat.reduceAdd, Nat.reduceLT, Nat.reduceLeDiff, Int.reduceToNat])
    | (refine Fun.plain (l1 _ _ _) rfl rfl rfl rfl ?_; simp only [hT, Int.cast_ofNat_Int, Int.toNat_natCast, ↓If_lit, eA, Nat.beq, List.toArray, Nat.reduceAdd, Nat.reduceLT, Nat.reduceLeDiff, Int.reduceToNat])
    | (intro _)
  all_goals try simp only [Bool.not_eq_true', Bool.not_eq_false'] at *
  all_goals first
    | (refine bad ?_; clear bad bad2; rw [hde]; simp only [*, decide_true, decide_false, Bool.true_or, Bool.or_true, Bool.false_or, Bool.or_false, Bool.not_true, Bool.not_false, Bool.true_and, Bool.and_true, Bool.false_and, Bool.and_false, Bool.and_self, Bool.or_self, Bool.not_not]; done)
    | (refine bad2 ?_; assumption)
    | skip
  have hhd : wldHd w = true := by clear bad bad2; rw [hde]; simp only [*, decide_true, decide_false, Bool.true_or, Bool.or_true, Bool.false_or, Bool.or_false, Bool.not_true, Bool.not_false, Bool.true_and, Bool.and_true, Bool.false_and, Bool.and_false, Bool.and_self, Bool.or_self, Bool.not_not]; done
  have hsn : decide ((w.seen.length : Int) = w.plan.cells.length) = true := by assumption
  clear bad bad2
  have hh2 := hhd
  unfold wldHd at hh2
  simp only [Bool.and_eq_true, decide_eq_true_eq] at hh2
  obtain ⟨hr0, hlen, _⟩ := hh2
  have hr : res w.plan = none := by simpa using hr0
  have gd := fun (k : Nat) hk hh => gd hr (w.node k) (hw.ns k hk) k hh
  refine wpc_loop {k : Nat // k ≤ w.nodes.length ∧ (List.range k).all (nodeAt w) = true} (fun k => ⟨[(1, .cp 0 0 0), (3, .int .i64 k.1)], [(0, ⟨11, [wldS w], [], true⟩)], 1⟩) (fun k => w.nodes.length - k.1) ⟨0, Nat.zero_le _, rfl⟩ (Le.of [] (Nat.zero_le _) ?_ ?_ ?_) ?_
  · simp only [eL, eH, eG, leO, Nat.beq, Nat.reduceLT]
  · simp only [wldS, eL, eH, eG, leO, Nat.beq, Nat.reduceLT]; first | done | rfl | simp | omega
  · simp only [wldS, eL, eH, eG, leO, Nat.beq, Nat.reduceLT]
  · rintro ⟨k, hk, hp⟩
    by_cases hlt : k < w.nodes.length
    · have hf : decide ((k : Int) < w.nodes.length) = true := decide_eq_true (by omega)
      have hr1 : ∀ d, (w.nodes.map nodS).getD k d = nodS (w.node k) := fun d => getIn nodS w.nodes k d nd0 hlt
      have hta := rall_succ (nodeAt w) k
      have hab := rall_bad (nodeAt w) w.nodes.length k hlt
      have gd := gd k hlt (by unfold has; simp; omega)
      have hat : nodeAt w k = goodB w.plan (w.node k) k := rfl
      rw [← hat] at gd
      clear hat
      simp only [plnS, nodS] at gd
      simp only [nodS] at hr1
      simp only [hT, hf, wldS, Int.toNat_natCast, ↓If_lit, eA, Nat.beq, List.toArray, Nat.reduceAdd, Nat.reduceLT, Nat.reduceLeDiff, Int.reduceToNat]
      repeat' first | (with_reducible refine And.intro ?_ ?_) | omega | intro _
      refine wpc_read [0, 1, 2, 3, 4, 5, 6, 7, 8, 9] hm (by kernel_rfl) ?_
      simp only [hT, hr1, Int.toNat_natCast, ↓If_lit, eT, ↓If_lit, Nat.reduceSub, reduceCtorEq, eA, Nat.beq, List.toArray, Nat.reduceAdd, Nat.reduceLT, Nat.reduceLeDiff, Int.reduceToNat]
      have hbad : nodeAt w k = false → false = wldB w := fun e => by unfold wldB; rw [hab e]; simp only [Bool.false_and, Bool.and_false]
      all_goals repeat' first
        | (refine If.mk (fun q => ?_) (fun q => ?_))
        | (show In64 _; exact ⟨by omega, by omega⟩)
        | (with_reducible refine And.intro ?_ ?_)
        | omega
        | (refine Fun.pcall (gd) (by exact rfl) rfl rfl rfl rfl ?_; simp only [hT, Int.toNat_natCast, ↓If_lit, eT, ↓If_lit, Nat.reduceSub, reduceCtorEq, eA, Nat.beq, List.toArray, Nat.reduceAdd, Nat.reduceLT, Nat.reduceLeDiff, Int.reduceToNat])
        | (intro _)
      all_goals try simp only [Bool.not_eq_true', Bool.not_eq_false'] at *
      all_goals first
        | exact hbad (by clear hbad; simp only [*]; done)
        | (have hok : nodeAt w k = true := by clear hbad; simp only [*]; done
           try refine And.intro (show In64 _ from ⟨by omega, by omega⟩) ?_
           refine ⟨⟨k + 1, hlt, by rw [hta, hp, hok]; rfl⟩, by simp only; omega, Le.of [] (Nat.zero_le _) ?_ ?_ ?_⟩
           · simp only [eL, eH, eG, leO, Nat.beq, Nat.reduceLT]
           · simp only [wldS, eL, eH, eG, leO, Nat.beq, Nat.reduceLT]; first | done | rfl | simp | omega
           · simp only [wldS, eL, eH, eG, leO, Nat.beq, Nat.reduceLT])
    · obtain rfl : k = w.nodes.length := by omega
      have hf : decide ((w.nodes.length : Int) < w.nodes.length) = false := decide_eq_false (by omega)
      have hnodes := hp
      simp only [hT, hf, wldS, ↓If_lit, eA, Nat.beq, List.toArray, Nat.reduceAdd, Nat.reduceLT, Nat.reduceLeDiff, Int.reduceToNat]
      repeat intro _
      refine wpc_loop {k : Nat // k ≤ w.log.length ∧ (w.log.take k).all frmB = true} (fun k => ⟨[(1, .cp 0 0 0), (4, .int .i64 k.1)], [(0, ⟨11, [wldS w], [], true⟩)], 1⟩) (fun k => w.log.length - k.1) ⟨0, Nat.zero_le _, rfl⟩ (Le.of [] (Nat.zero_le _) ?_ ?_ ?_) ?_
      · simp only [eL, eH, eG, leO, Nat.beq, Nat.reduceLT]
      · simp only [wldS, eL, eH, eG, leO, Nat.beq, Nat.reduceLT]; first | done | rfl | simp | omega
      · simp only [wldS, eL, eH, eG, leO, Nat.beq, Nat.reduceLT]
      · rintro ⟨k, hk, hp⟩
        by_cases hlt : k < w.log.length
        · have hf : decide ((k : Int) < w.log.length) = true := decide_eq_true (by omega)
          have hr1 : ∀ d, (w.log.map msgS).getD k d = msgS (w.log.getD k []) := fun d => getIn msgS w.log k d [] hlt
          have hta := take_all frmB w.log k [] hlt
          have hab := all_bad frmB w.log k [] hlt
          have hat : frmB (w.log.getD k []) = decide (((w.log.getD k []).length : Int) = 24) := rfl
          simp only [msgS] at hr1
          simp only [hT, hf, hr1, wldS, Int.toNat_natCast, ↓If_lit, eA, Nat.beq, List.toArray, Nat.reduceAdd, Nat.reduceLT, Nat.reduceLeDiff, Int.reduceToNat]
          have hbad : frmB (w.log.getD k []) = false → false = wldB w := fun e => by unfold wldB; rw [hab e]; simp only [Bool.false_and, Bool.and_false]
          all_goals repeat' first
            | (refine If.mk (fun q => ?_) (fun q => ?_))
            | (show In64 _; exact ⟨by omega, by omega⟩)
            | (with_reducible refine And.intro ?_ ?_)
            | omega
            | (intro _)
          all_goals try simp only [Bool.not_eq_true', Bool.not_eq_false'] at *
          all_goals first
            | exact hbad (by clear hbad; rw [hat]; simp only [*, decide_true, decide_false, Bool.true_or, Bool.or_true, Bool.false_or, Bool.or_false, Bool.not_true, Bool.not_false, Bool.true_and, Bool.and_true, Bool.false_and, Bool.and_false, Bool.and_self, Bool.or_self, Bool.not_not]; done)
            | (have hok : frmB (w.log.getD k []) = true := by clear hbad; rw [hat]; simp only [*, decide_true, decide_false, Bool.true_or, Bool.or_true, Bool.false_or, Bool.or_false, Bool.not_true, Bool.not_false, Bool.true_and, Bool.and_true, Bool.false_and, Bool.and_false, Bool.and_self, Bool.or_self, Bool.not_not]; done
               try refine And.intro (show In64 _ from ⟨by omega, by omega⟩) ?_
               refine ⟨⟨k + 1, hlt, by rw [hta, hp, hok]; rfl⟩, by simp only; omega, Le.of [] (Nat.zero_le _) ?_ ?_ ?_⟩
               · simp only [eL, eH, eG, leO, Nat.beq, Nat.reduceLT]
               · simp only [wldS, eL, eH, eG, leO, Nat.beq, Nat.reduceLT]; first | done | rfl | simp | omega
               · simp only [wldS, eL, eH, eG, leO, Nat.beq, Nat.reduceLT])
        · obtain rfl : k = w.log.length := by omega
          have hf : decide ((w.log.length : Int) < w.log.length) = false := decide_eq_false (by omega)
          rw [List.take_length] at hp
          have hlog := hp
          simp only [hT, hf, wldS, ↓If_lit, eA, Nat.beq, List.toArray, Nat.reduceAdd, Nat.reduceLT, Nat.reduceLeDiff, Int.reduceToNat]
          repeat intro _
          refine wpc_loop {k : Nat // k ≤ w.seen.length ∧ (w.seen.take k).all seenB = true} (fun k => ⟨[(1, .cp 0 0 0), (5, .int .i64 k.1)], [(0, ⟨11, [wldS w], [], true⟩)], 1⟩) (fun k => w.seen.length - k.1) ⟨0, Nat.zero_le _, rfl⟩ (Le.of [] (Nat.zero_le _) ?_ ?_ ?_) ?_
          · simp only [eL, eH, eG, leO, Nat.beq, Nat.reduceLT]
          · simp only [wldS, eL, eH, eG, leO, Nat.beq, Nat.reduceLT]; first | done | rfl | simp | omega
          · simp only [wldS, eL, eH, eG, leO, Nat.beq, Nat.reduceLT]
          · rintro ⟨k, hk, hp⟩
            by_cases hlt : k < w.seen.length
            · have hf : decide ((k : Int) < w.seen.length) = true := decide_eq_true (by omega)
              have hr1 : ∀ d, (w.seen.map seenS).getD k d = seenS (w.seen.getD k []) := fun d => getIn seenS w.seen k d [] hlt
              have hta := take_all seenB w.seen k [] hlt
              have hab := all_bad seenB w.seen k [] hlt
              have se := se (w.seen.getD k [])
              simp only [seenS] at hr1
              simp only [hT, hf, hr1, wldS, Int.toNat_natCast, ↓If_lit, eA, Nat.beq, List.toArray, Nat.reduceAdd, Nat.reduceLT, Nat.reduceLeDiff, Int.reduceToNat]
              have hbad : seenB (w.seen.getD k []) = false → false = wldB w := fun e => by unfold wldB seenAll; rw [hab e]; simp only [Bool.false_and, Bool.and_false]
              all_goals repeat' first
                | (refine If.mk (fun q => ?_) (fun q => ?_))
                | (show In64 _; exact ⟨by omega, by omega⟩)
                | (with_reducible refine And.intro ?_ ?_)
                | omega
                | (refine Fun.plain (se) rfl rfl rfl rfl ?_; simp only [hT, Int.cast_ofNat_Int, Int.toNat_natCast, ↓If_lit, eA, Nat.beq, List.toArray, Nat.reduceAdd, Nat.reduceLT, Nat.reduceLeDiff, Int.reduceToNat])
                | (intro _)
              all_goals try simp only [Bool.not_eq_true', Bool.not_eq_false'] at *
              all_goals first
                | exact hbad (by clear hbad; simp only [*]; done)
                | (have hok : seenB (w.seen.getD k []) = true := by clear hbad; simp only [*]; done
                   try refine And.intro (show In64 _ from ⟨by omega, by omega⟩) ?_
                   refine ⟨⟨k + 1, hlt, by rw [hta, hp, hok]; rfl⟩, by simp only; omega, Le.of [] (Nat.zero_le _) ?_ ?_ ?_⟩
                   · simp only [eL, eH, eG, leO, Nat.beq, Nat.reduceLT]
                   · simp only [wldS, eL, eH, eG, leO, Nat.beq, Nat.reduceLT]; first | done | rfl | simp | omega
                   · simp only [wldS, eL, eH, eG, leO, Nat.beq, Nat.reduceLT])
            · obtain rfl : k = w.seen.length := by omega
              have hf : decide ((w.seen.length : Int) < w.seen.length) = false := decide_eq_false (by omega)
              rw [List.take_length] at hp
              simp only [hT, hf, wldS, ↓If_lit, eA, Nat.beq, List.toArray, Nat.reduceAdd, Nat.reduceLT, Nat.reduceLeDiff, Int.reduceToNat]
              repeat intro _
              unfold wldB seenAll; rw [hhd, hnodes, hlog, hp, hsn]; rfl
end Go.Proofs.YtjlmfcddbcoimaaGreat.C
