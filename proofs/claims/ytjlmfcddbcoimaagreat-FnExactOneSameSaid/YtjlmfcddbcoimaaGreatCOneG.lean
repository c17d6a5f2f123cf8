/- Whether the one machine is ok, by the program's text: the whole. -/
import Derived.Test.YtjlmfcddbcoimaaGreatCOneF
set_option maxRecDepth 100000
set_option maxHeartbeats 4000000
set_option linter.unusedSimpArgs false
set_option linter.unusedVariables false
namespace Go.Proofs.YtjlmfcddbcoimaaGreat.C
open Go Go.Av Go.Proofs
theorem TY_oneOkI {P : Program} (hP : P = Tryz.prog) : (((((P.follows .mixedOrders = true) ∧ (fldT P 73 0 = some ((0, (true, 7))))) ∧ ((tyT P 43 = some ((true, 7))) ∧ (tyT P 73 = some ((true, 14))))) ∧ (((fldT P 73 6 = some ((12, (false, 1)))) ∧ (tyT P 3 = some ((false, 1)))) ∧ ((fldT P 73 2 = some ((8, (false, 1)))) ∧ ((tyT P 29 = some ((false, 1))) ∧ (lkT P 29 = 1))))) ∧ ((((elT P 29 = some ((true, (5, 88)))) ∧ (tyT P 151 = some ((true, 5)))) ∧ ((zeroT P 151 = some (((.int .i64 0) :: (.nils :: (.nils :: ((.int .i64 0) :: (.nils :: []))))))) ∧ ((fldT P 43 3 = some ((3, (false, 1)))) ∧ (tyT P 39 = some ((false, 1)))))) ∧ (((elT P 39 = some ((true, (5, 56)))) ∧ (tyT P 156 = some ((true, 5)))) ∧ ((zeroT P 156 = some (((.int .i64 0) :: ((.int .i64 0) :: ((.int .i64 0) :: ((.bool false) :: (.nils :: []))))))) ∧ ((fldT P 73 1 = some ((7, (false, 1)))) ∧ (tyT P 64 = some ((false, 1)))))))) ∧ (((((fldT P 156 0 = some ((0, (false, 1)))) ∧ (elT P 64 = some ((false, (1, 1))))) ∧ ((tyT P 4 = some ((false, 1))) ∧ (fldT P 43 4 = some ((4, (false, 1)))))) ∧ (((tyT P 40 = some ((false, 1))) ∧ (lkT P 40 = 1)) ∧ ((elT P 40 = some ((true, (5, 56)))) ∧ ((tyT P 160 = some ((true, 5))) ∧ (zeroT P 160 = some (((.int .i64 0) :: ((.int .i64 0) :: ((.int .i64 0) :: ((.bool false) :: (.nils :: []))))))))))) ∧ ((((fldT P 73 3 = some ((9, (false, 1)))) ∧ (tyT P 30 = some ((false, 1)))) ∧ ((elT P 30 = some ((true, (2, 32)))) ∧ ((tyT P 163 = some ((true, 2))) ∧ (fldT P 73 4 = some ((10, (false, 1))))))) ∧ (((fldT P 73 5 = some ((11, (false, 1)))) ∧ (tyT P 65 = some ((false, 1)))) ∧ ((fldT P 73 7 = some ((13, (false, 1)))) ∧ ((tyT P 71 = some ((false, 1))) ∧ (lkT P 39 = 1)))))) := by subst hP; refine ⟨⟨⟨⟨⟨?_, ?_⟩, ⟨?_, ?_⟩⟩, ⟨⟨?_, ?_⟩, ⟨?_, ⟨?_, ?_⟩⟩⟩⟩, ⟨⟨⟨?_, ?_⟩, ⟨?_, ⟨?_, ?_⟩⟩⟩, ⟨⟨?_, ?_⟩, ⟨?_, ⟨?_, ?_⟩⟩⟩⟩⟩, ⟨⟨⟨⟨?_, ?_⟩, ⟨?_, ?_⟩⟩, ⟨⟨?_, ?_⟩, ⟨?_, ⟨?_, ?_⟩⟩⟩⟩, ⟨⟨⟨?_, ?_⟩, ⟨?_, ⟨?_, ?_⟩⟩⟩, ⟨⟨?_, ?_⟩, ⟨?_, ⟨?_, ?_⟩⟩⟩⟩⟩⟩ <;> kernel_rfl
theorem oneOkI {P : Program} [Known P] (hP : P = Tryz.prog) (a : VOne) (ha : SzO a) : Fun P 35 [.agg (oneS a)] (.bool (oneB a)) := by
  refine fun_of (fn := Tryz.f35) (hP ▸ Tryz.func35) (by kernel_rfl) (by kernel_rfl) (by kernel_rfl) (by kernel_rfl) ?_
  have hT := TY_oneOkI hP
  have hm : P.follows .mixedOrders = true := by subst hP; kernel_rfl
  have oi := plnOkI hP a.plan ha.p
  have os := oneSizesI hP a ha
  have ec := fun c i m => nodCellOkI hP c i m
  have eb := fun b w m => nodBoxOkI hP b w m
  have be := fun (k : Nat) h h1 => beginsI hP a.plan k h h1
  have en := fun (k : Nat) h h1 => endsI hP a.plan k h h1
  have ao := airOkI hP a.air a.plan.ways.length
  have se := seenI hP a.seen a.plan.cells.length
  clear hP
  intro hl
  clear hl
  simp only [oneS, Tryz.f35, hT, eA, Nat.beq, List.toArray, Nat.reduceAdd, Nat.reduceLT, Nat.reduceLeDiff, Int.reduceToNat]
  have hbc : a.cells.length ≤ 140737488355328 := by have := ha.c; omega
  have hpc : a.plan.cells.length ≤ 140737488355328 := by have := ha.p.c; omega
  have hpw : a.plan.ways.length ≤ 140737488355328 := by have := ha.p.w; omega
  have hde : oneB a = (!(!(res a.plan).isNone || (!oneSz a || (decide (a.now < 0) || decide (20000 < a.now)))) && ((List.range a.cells.length).all (oneCell a) && ((List.range a.plan.ways.length).all (oneWay a) && (airAll a && seenAll a.seen a.plan.cells.length)))) := by
    unfold oneB nowB
    rw [show (decide (0 ≤ a.now) && decide (a.now ≤ 20000)) = !(decide (a.now < 0) || decide (20000 < a.now)) from by rw [Bool.eq_iff_iff]; simp]
    generalize (res a.plan).isNone = b1
    generalize oneSz a = b2
    cases b1 <;> cases b2 <;> simp
  have bad : (!(!(res a.plan).isNone || (!oneSz a || (decide (a.now < 0) || decide (20000 < a.now))))) = false → false = oneB a := fun h => by rw [hde, h, Bool.false_and]
  simp only [plnS, oneS] at oi os
  all_goals repeat' first
    | (refine If.mk (fun q => ?_) (fun q => ?_))
    | (show In64 _; exact ⟨by omega, by omega⟩)
    | (with_reducible refine And.intro ?_ ?_)
    | omega
    | (refine Fun.plain (oi) rfl rfl rfl rfl ?_; simp only [hT, Int.cast_ofNat_Int, Int.toNat_natCast, ↓If_lit, eA, Nat.beq, List.toArray, Nat.reduceAdd, Nat.reduceLT, Nat.reduceLeDiff, Int.reduceToNat])
    | (refine Fun.plain (os) rfl rfl rfl rfl ?_; simp only [hT, Int.cast_ofNat_Int, Int.toNat_natCast, ↓If_lit, eA, Nat.beq, List.toArray, Nat.reduceAdd, Nat.reduceLT, Nat.reduceLeDiff, Int.reduceToNat])
    | (intro _)
  all_goals try simp only [Bool.not_eq_true', Bool.not_eq_false'] at *
  all_goals first
    | (refine bad ?_; clear bad hde; simp only [*, decide_true, decide_false, Bool.true_or, Bool.or_true, Bool.false_or, Bool.or_false, Bool.not_true, Bool.not_false, Bool.true_and, Bool.and_true, Bool.false_and, Bool.and_false, Bool.and_self, Bool.or_self, Bool.not_not]; done)
    | assumption
    | skip
  have hhd : (!(!(res a.plan).isNone || (!oneSz a || (decide (a.now < 0) || decide (20000 < a.now))))) = true := by clear bad hde; simp only [*, decide_true, decide_false, Bool.true_or, Bool.or_true, Bool.false_or, Bool.or_false, Bool.not_true, Bool.not_false, Bool.true_and, Bool.and_true, Bool.false_and, Bool.and_false, Bool.and_self, Bool.or_self, Bool.not_not]; done
  have hr0 : (res a.plan).isNone = true := by assumption
  have hsz : oneSz a = true := by assumption
  clear bad
  have hr : res a.plan = none := by simpa using hr0
  unfold oneSz at hsz
  simp only [Bool.and_eq_true, decide_eq_true_eq] at hsz
  obtain ⟨lu, lc, lo, li⟩ := hsz
  have bad2 : (List.range a.cells.length).all (oneCell a) = false → false = oneB a := fun h => by rw [hde, h, Bool.false_and, Bool.and_false]
  refine wpc_loop {k : Nat // k ≤ a.cells.length ∧ (List.range k).all (oneCell a) = true} (fun k => ⟨[(1, .cp 0 0 0), (28, .sl 5 (a.cells.map celS) celZ), (29, .int .i64 a.cells.length), (30, .int .i64 k.1)], [(0, ⟨14, [oneS a], [], true⟩)], 1⟩) (fun k => a.cells.length - k.1) ⟨0, Nat.zero_le _, rfl⟩ (Le.of [] (Nat.zero_le _) ?_ ?_ ?_) ?_
  · simp only [eL, eH, eG, leO, Nat.beq, Nat.reduceLT]
  · simp only [oneS, eL, eH, eG, leO, Nat.beq, Nat.reduceLT]; first | done | rfl | simp | omega
  · simp only [oneS, eL, eH, eG, leO, Nat.beq, Nat.reduceLT]
  · rintro ⟨k, hk, hp⟩
    by_cases hlt : k < a.cells.length
    · have hf : decide ((k : Int) < a.cells.length) = true := decide_eq_true (by omega)
      have hr1 : ∀ d, (a.cells.map celS).getD k d = celS (a.cell k) := fun d => getIn celS a.cells k d cel0 hlt
      have hr2 : ∀ d, (a.plan.cells.map cellS).getD k d = cellS (a.plan.cell k) := fun d => getIn cellS a.plan.cells k d c0 (by omega)
      obtain ⟨hn1, hn2⟩ := has_iff (res_cells hr k (by omega))
      have hr3 : ∀ d, (a.up.map bE).getD (a.plan.cell k).1.toNat d = bE (a.upAt (a.plan.cell k).1) := fun d => getIn bE a.up _ d false (by omega)
      have hta := rall_succ (oneCell a) k
      have hab := rall_bad (oneCell a) a.cells.length k hlt
      have hat : oneCell a k = celB (a.cell k) (a.plan.cell k) (a.upAt (a.plan.cell k).1) := rfl
      have ec := ec (a.cell k) (a.plan.cell k) (a.upAt (a.plan.cell k).1)
      rw [← hat] at ec
      clear hat
      simp only [celS, cellS] at ec hr1 hr2
      simp only [bE] at hr3
      generalize a.upAt (a.plan.cell k).1 = u at *
      simp only [hT, hf, hr1, hr2, oneS, Int.toNat_natCast, ↓If_lit, eA, Nat.beq, List.toArray, Nat.reduceAdd, Nat.reduceLT, Nat.reduceLeDiff, Int.reduceToNat]
      repeat' first | (with_reducible refine And.intro ?_ ?_) | omega
      refine wpc_read [0, 1, 2, 3, 4, 5, 6, 7, 8, 9] hm (by kernel_rfl) ?_
      simp only [hT, hr3, Int.toNat_natCast, ↓If_lit, eT, ↓If_lit, Nat.reduceSub, reduceCtorEq, eA, Nat.beq, List.toArray, Nat.reduceAdd, Nat.reduceLT, Nat.reduceLeDiff, Int.reduceToNat]
      have hbad : oneCell a k = false → false = oneB a := fun e => by exact bad2 (hab e)
      all_goals repeat' first
        | (refine If.mk (fun q => ?_) (fun q => ?_))
        | (show In64 _; exact ⟨by omega, by omega⟩)
        | (with_reducible refine And.intro ?_ ?_)
        | omega
        | (refine Fun.pcall (ec) (by exact rfl) rfl rfl rfl rfl ?_; simp only [hT, Int.toNat_natCast, ↓If_lit, eT, ↓If_lit, Nat.reduceSub, reduceCtorEq, eA, Nat.beq, List.toArray, Nat.reduceAdd, Nat.reduceLT, Nat.reduceLeDiff, Int.reduceToNat])
        | (intro _)
      all_goals clear oi os ec eb be en ao se hr1 hr2 hr3 hT hm
      all_goals try simp only [Bool.not_eq_true', Bool.not_eq_false'] at *
      all_goals first
        | exact hbad (by clear hbad; assumption)
        | (have hok : oneCell a k = true := by clear hbad; assumption
           try refine And.intro (show In64 _ from ⟨by omega, by omega⟩) ?_
           refine ⟨⟨k + 1, hlt, by rw [hta, hp, hok]; rfl⟩, by simp only; omega, Le.of [] (Nat.zero_le _) ?_ ?_ ?_⟩
           · simp only [eL, eH, eG, leO, Nat.beq, Nat.reduceLT]
           · simp only [oneS, eL, eH, eG, leO, Nat.beq, Nat.reduceLT]; first | done | rfl | simp | omega
           · simp only [oneS, eL, eH, eG, leO, Nat.beq, Nat.reduceLT])
    · obtain rfl : k = a.cells.length := by omega
      have hf : decide ((a.cells.length : Int) < a.cells.length) = false := decide_eq_false (by omega)
      have hcells := hp
      clear bad2
      have bad3 : (List.range a.plan.ways.length).all (oneWay a) = false → false = oneB a := fun h => by rw [hde, h, Bool.false_and, Bool.and_false, Bool.and_false]
      simp only [hT, hf, oneS, ↓If_lit, eA, Nat.beq, List.toArray, Nat.reduceAdd, Nat.reduceLT, Nat.reduceLeDiff, Int.reduceToNat]
      repeat' first | (with_reducible refine And.intro ?_ ?_) | omega | intro _
      refine wpc_loop {k : Nat // k ≤ a.plan.ways.length ∧ (List.range k).all (oneWay a) = true} (fun k => ⟨[(1, .cp 0 0 0), (54, .sl 5 (a.plan.ways.map wayS) wZ), (55, .int .i64 a.plan.ways.length), (56, .int .i64 k.1)], [(0, ⟨14, [oneS a], [], true⟩)], 1⟩) (fun k => a.plan.ways.length - k.1) ⟨0, Nat.zero_le _, rfl⟩ (Le.of [] (Nat.zero_le _) ?_ ?_ ?_) ?_
      · simp only [eL, eH, eG, leO, Nat.beq, Nat.reduceLT]
      · simp only [oneS, eL, eH, eG, leO, Nat.beq, Nat.reduceLT]; first | done | rfl | simp | omega
      · simp only [oneS, eL, eH, eG, leO, Nat.beq, Nat.reduceLT]
      · rintro ⟨k, hk, hp⟩
        by_cases hlt : k < a.plan.ways.length
        · have hf : decide ((k : Int) < a.plan.ways.length) = true := decide_eq_true (by omega)
          have hr1 : ∀ d, (a.plan.ways.map wayS).getD k d = wayS (a.plan.way k) := fun d => getIn wayS a.plan.ways k d w0 hlt
          have hr3 : ∀ d, (a.out.map boxS).getD k d = boxS (a.ob k) := fun d => getIn boxS a.out k d box0 (by omega)
          have hr4 : ∀ d, (a.inn.map boxS).getD k d = boxS (a.ib k) := fun d => getIn boxS a.inn k d box0 (by omega)
          have hwk : has (k : Int) a.plan.ways.length = true := by unfold has; simp; omega
          obtain ⟨w1, w2⟩ := res_ways hr k hlt
          have w1' : has (a.plan.way (k : Int).toNat).1 a.plan.cells.length = true := by rw [Int.toNat_natCast]; exact w1
          have w2' : has (a.plan.way (k : Int).toNat).2.1 a.plan.cells.length = true := by rw [Int.toNat_natCast]; exact w2
          obtain ⟨hb1, hb2⟩ := has_iff (res_begins hr k hlt)
          obtain ⟨he1, he2⟩ := has_iff (res_ends hr k hlt)
          have hr5 : ∀ d, (a.up.map bE).getD (begins a.plan k).toNat d = bE (a.upAt (begins a.plan k)) := fun d => getIn bE a.up _ d false (by omega)
          have hr6 : ∀ d, (a.up.map bE).getD (ends a.plan k).toNat d = bE (a.upAt (ends a.plan k)) := fun d => getIn bE a.up _ d false (by omega)
          have hta := rall_succ (oneWay a) k
          have hab := rall_bad (oneWay a) a.plan.ways.length k hlt
          have hat : oneWay a k = (boxB (a.ob k) (a.plan.way k) (a.upAt (begins a.plan k)) && boxB (a.ib k) (a.plan.way k) (a.upAt (ends a.plan k))) := rfl
          have be := (be k hwk w1').rp1 [.sl 1 (a.up.map bE) bZ, .sl 5 (a.cells.map celS) celZ, .sl 2 (a.out.map boxS) boxZ, .sl 2 (a.inn.map boxS) boxZ, .sl 1 (a.air.map airS) listZ, .int .i64 a.now, .sl 1 (a.seen.map seenS) listZ]
          have en := (en k hwk w2').rp1 [.sl 1 (a.up.map bE) bZ, .sl 5 (a.cells.map celS) celZ, .sl 2 (a.out.map boxS) boxZ, .sl 2 (a.inn.map boxS) boxZ, .sl 1 (a.air.map airS) listZ, .int .i64 a.now, .sl 1 (a.seen.map seenS) listZ]
          have eo := eb (a.ob k) (a.plan.way k) (a.upAt (begins a.plan k))
          have ei := eb (a.ib k) (a.plan.way k) (a.upAt (ends a.plan k))
          generalize boxB (a.ob k) (a.plan.way k) (a.upAt (begins a.plan k)) = r1 at *
          generalize boxB (a.ib k) (a.plan.way k) (a.upAt (ends a.plan k)) = r2 at *
          generalize a.upAt (begins a.plan k) = u1 at *
          generalize a.upAt (ends a.plan k) = u2 at *
          generalize begins a.plan k = nb at *
          generalize ends a.plan k = ne at *
          simp only [plnS, List.cons_append, List.nil_append] at be en
          simp only [boxS, wayS] at eo ei hr1 hr3 hr4
          simp only [bE] at hr5 hr6
          simp only [hT, hf, hr1, oneS, Int.toNat_natCast, ↓If_lit, eA, Nat.beq, List.toArray, Nat.reduceAdd, Nat.reduceLT, Nat.reduceLeDiff, Int.reduceToNat]
          repeat' first | (with_reducible refine And.intro ?_ ?_) | omega
          refine wpc_readL [0, 1, 2, 3, 4, 5, 6, 7, 8, 9, 10, 11, 12, 13, 14, 15, 16, 17, 18, 19, 20, 21, 22, 23, 24, 25, 26, 27, 28, 29, 30, 31] hm (by kernel_rfl) ?_
          simp only [hT, hr3, hr4, Int.toNat_natCast, ↓If_lit, wtlE, hstL, eT, ↓If_lit, Nat.reduceSub, reduceCtorEq, eA, Nat.beq, List.toArray, Nat.reduceAdd, Nat.reduceLT, Nat.reduceLeDiff, Int.reduceToNat]
          have hbad : oneWay a k = false → false = oneB a := fun e => by exact bad3 (hab e)
          all_goals repeat' first
            | (refine If.mk (fun q => ?_) (fun q => ?_))
            | (show In64 _; exact ⟨by omega, by omega⟩)
            | (with_reducible refine And.intro ?_ ?_)
            | omega
            | (refine Fun.hlent (be) (by rfl) (by rfl) rfl rfl rfl rfl ?_; simp only [hT, hr3, hr4, hr5, Int.toNat_natCast, ↓If_lit, wtlE, hstL, eT, ↓If_lit, Nat.reduceSub, reduceCtorEq, eA, Nat.beq, List.toArray, Nat.reduceAdd, Nat.reduceLT, Nat.reduceLeDiff, Int.reduceToNat])
            | (refine Fun.hlent (en) (by rfl) (by rfl) rfl rfl rfl rfl ?_; simp only [hT, hr3, hr4, hr6, Int.toNat_natCast, ↓If_lit, wtlE, hstL, eT, ↓If_lit, Nat.reduceSub, reduceCtorEq, eA, Nat.beq, List.toArray, Nat.reduceAdd, Nat.reduceLT, Nat.reduceLeDiff, Int.reduceToNat])
            | (refine Fun.hcall (eo) (by exact rfl) rfl rfl rfl rfl ?_; simp only [hT, hr3, hr4, Int.toNat_natCast, ↓If_lit, wtlE, hstL, eT, ↓If_lit, Nat.reduceSub, reduceCtorEq, eA, Nat.beq, List.toArray, Nat.reduceAdd, Nat.reduceLT, Nat.reduceLeDiff, Int.reduceToNat])
            | (refine Fun.hcall (ei) (by exact rfl) rfl rfl rfl rfl ?_; simp only [hT, hr3, hr4, Int.toNat_natCast, ↓If_lit, wtlE, hstL, eT, ↓If_lit, Nat.reduceSub, reduceCtorEq, eA, Nat.beq, List.toArray, Nat.reduceAdd, Nat.reduceLT, Nat.reduceLeDiff, Int.reduceToNat])
            | (intro _)
          all_goals clear oi os ec eb be en eo ei ao se hr1 hr3 hr4 hr5 hr6 hT hm
          all_goals try simp only [Bool.not_eq_true', Bool.not_eq_false'] at *
          all_goals first
            | exact hbad (by clear hbad; clear hde bad3 hab hta hp hhd lu lc lo li hlt hf hk; rw [hat]; simp only [*, decide_true, decide_false, Bool.true_or, Bool.or_true, Bool.false_or, Bool.or_false, Bool.not_true, Bool.not_false, Bool.true_and, Bool.and_true, Bool.false_and, Bool.and_false, Bool.and_self, Bool.or_self, Bool.not_not]; done)
            | (have hok : oneWay a k = true := by clear hbad; clear hde bad3 hab hta hp hhd lu lc lo li hlt hf hk; rw [hat]; simp only [*, decide_true, decide_false, Bool.true_or, Bool.or_true, Bool.false_or, Bool.or_false, Bool.not_true, Bool.not_false, Bool.true_and, Bool.and_true, Bool.false_and, Bool.and_false, Bool.and_self, Bool.or_self, Bool.not_not]; done
               try refine And.intro (show In64 _ from ⟨by omega, by omega⟩) ?_
               refine ⟨⟨k + 1, hlt, by rw [hta, hp, hok]; rfl⟩, by simp only; omega, Le.of [] (Nat.zero_le _) ?_ ?_ ?_⟩
               · simp only [eL, eH, eG, leO, Nat.beq, Nat.reduceLT]
               · simp only [oneS, eL, eH, eG, leO, Nat.beq, Nat.reduceLT]; first | done | rfl | simp | omega
               · simp only [oneS, eL, eH, eG, leO, Nat.beq, Nat.reduceLT])
        · obtain rfl : k = a.plan.ways.length := by omega
          have hf : decide ((a.plan.ways.length : Int) < a.plan.ways.length) = false := decide_eq_false (by omega)
          have hways := hp
          simp only [hT, hf, oneS, ↓If_lit, eA, Nat.beq, List.toArray, Nat.reduceAdd, Nat.reduceLT, Nat.reduceLeDiff, Int.reduceToNat]
          repeat' first | (with_reducible refine And.intro ?_ ?_) | omega | intro _
          refine Fun.plain (ao) rfl rfl rfl rfl ?_; simp only [hT, nneg, beq_self_eq_true, decide_true, decide_false, ↓If_lit, Int.cast_ofNat_Int, Int.reduceLT, Int.reduceLE, eA, Nat.beq, List.toArray, Nat.reduceAdd, Nat.reduceLT, Nat.reduceLeDiff, Int.reduceToNat]; (try unfold lim); repeat first | ((with_reducible refine And.intro ?_ ?_); (first | omega | exact ⟨by omega, by omega⟩ | rfl)) | intro _
          have hval : oneB a = (airAll a && seenAll a.seen a.plan.cells.length) := by rw [hde, hhd, hcells, hways]; simp only [Bool.true_and]
          rw [hval]
          unfold airAll
          refine If.mk (fun q => ?_) (fun q => ?_)
          · repeat' first | (with_reducible refine And.intro ?_ ?_) | omega | intro _
            refine Fun.plain (se) rfl rfl rfl rfl ?_; simp only [hT, nneg, beq_self_eq_true, decide_true, decide_false, ↓If_lit, Int.cast_ofNat_Int, Int.reduceLT, Int.reduceLE, eA, Nat.beq, List.toArray, Nat.reduceAdd, Nat.reduceLT, Nat.reduceLeDiff, Int.reduceToNat]; (try unfold lim); repeat first | ((with_reducible refine And.intro ?_ ?_); (first | omega | exact ⟨by omega, by omega⟩ | rfl)) | intro _
            rw [q, Bool.true_and]
          · rw [q, Bool.false_and]
end Go.Proofs.YtjlmfcddbcoimaaGreat.C
