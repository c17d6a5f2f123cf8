/- Whether two machines are the same, by both texts. -/
import Derived.Test.YtjlmfcddbcoimaaGreatCOneG
import Derived.Test.YtjlmfcddbcoimaaGreatCOneI
import Derived.Test.YtjlmfcddbcoimaaGreatCOneJ
set_option maxRecDepth 100000
set_option maxHeartbeats 4000000
set_option linter.unusedSimpArgs false
set_option linter.unusedVariables false
namespace Go.Proofs.YtjlmfcddbcoimaaGreat.C
open Go Go.Av Go.Proofs
def oneEqHd (a b : VOne) : Bool := oneB a && (oneB b && (decide ((a.up.length : Int) = b.up.length) && (decide ((a.cells.length : Int) = b.cells.length) && decide (a.now = b.now))))
def upEq (a b : VOne) (k : Nat) : Bool := a.up.getD k false == b.up.getD k false
def cellEq (a b : VOne) (k : Nat) : Bool := sameC (a.cell k) (b.cell k) && decide (a.seen.getD k [] = b.seen.getD k [])
def boxRow (a b : VOne) (k : Nat) : Bool := decide (a.ob k = b.ob k) && decide (a.ib k = b.ib k)
def oneEq (a b : VOne) : Bool := oneEqHd a b && ((List.range a.up.length).all (upEq a b) && ((List.range a.cells.length).all (cellEq a b) && (decide (a.out = b.out) && decide (a.inn = b.inn))))
theorem oneB_lens {a : VOne} (h : oneB a = true) : a.inn.length = a.out.length ∧ a.seen.length = a.cells.length := by
  rw [oneB_eq] at h
  unfold oneH1 oneH2 at h
  simp only [Bool.and_eq_true, decide_eq_true_eq] at h
  obtain ⟨⟨_, _, h1, h2, _⟩, ⟨h3, h4, _⟩, _⟩ := h
  exact ⟨by omega, by omega⟩
theorem boxRow_all (a b : VOne) (h1 : a.out.length = b.out.length) (h2 : a.inn.length = a.out.length) (h3 : b.inn.length = b.out.length) : (List.range a.out.length).all (boxRow a b) = (decide (a.out = b.out) && decide (a.inn = b.inn)) := by
  have e1 := range_eq a.out b.out box0 h1
  have e2 := range_eq a.inn b.inn box0 (by omega)
  rw [h2] at e2
  rw [← e1, ← e2, ← range_and]; rfl
theorem TY_oneSameI {P : Program} (hP : P = Tryz.prog) : ((((P.follows .mixedOrders = true) ∧ ((tyT P 73 = some ((true, 14))) ∧ (fldT P 73 1 = some ((7, (false, 1)))))) ∧ ((tyT P 64 = some ((false, 1))) ∧ ((lkT P 64 = 1) ∧ (fldT P 73 2 = some ((8, (false, 1))))))) ∧ (((tyT P 29 = some ((false, 1))) ∧ ((lkT P 29 = 1) ∧ (fldT P 73 3 = some ((9, (false, 1)))))) ∧ (((tyT P 30 = some ((false, 1))) ∧ (lkT P 30 = 1)) ∧ ((fldT P 73 6 = some ((12, (false, 1)))) ∧ (tyT P 3 = some ((false, 1))))))) ∧ ((((elT P 64 = some ((false, (1, 1)))) ∧ ((tyT P 4 = some ((false, 1))) ∧ (bolT P 4 = true))) ∧ ((elT P 29 = some ((true, (5, 88)))) ∧ ((tyT P 151 = some ((true, 5))) ∧ (zeroT P 151 = some (((.int .i64 0) :: (.nils :: (.nils :: ((.int .i64 0) :: (.nils :: [])))))))))) ∧ (((fldT P 73 7 = some ((13, (false, 1)))) ∧ ((tyT P 71 = some ((false, 1))) ∧ (elT P 71 = some ((false, (1, 24)))))) ∧ (((tyT P 143 = some ((false, 1))) ∧ (elT P 30 = some ((true, (2, 32))))) ∧ ((tyT P 163 = some ((true, 2))) ∧ (fldT P 73 4 = some ((10, (false, 1)))))))) := by subst hP; refine ⟨⟨⟨⟨?_, ⟨?_, ?_⟩⟩, ⟨?_, ⟨?_, ?_⟩⟩⟩, ⟨⟨?_, ⟨?_, ?_⟩⟩, ⟨⟨?_, ?_⟩, ⟨?_, ?_⟩⟩⟩⟩, ⟨⟨⟨?_, ⟨?_, ?_⟩⟩, ⟨?_, ⟨?_, ?_⟩⟩⟩, ⟨⟨?_, ⟨?_, ?_⟩⟩, ⟨⟨?_, ?_⟩, ⟨?_, ?_⟩⟩⟩⟩⟩ <;> kernel_rfl
theorem oneSameI {P : Program} [Known P] (hP : P = Tryz.prog) (a b : VOne) (ha : SzO a) (hb : SzO b) : Fun P 38 [.agg (oneS a), .agg (oneS b)] (.bool (oneEq a b)) := by
  refine fun_of (fn := Tryz.f38) (hP ▸ Tryz.func38) (by kernel_rfl) (by kernel_rfl) (by kernel_rfl) (by kernel_rfl) ?_
  have hT := TY_oneSameI hP
  have hm : P.follows .mixedOrders = true := by subst hP; kernel_rfl
  have oa := oneOkI hP a ha
  have ob := oneOkI hP b hb
  have ec := fun c d => celSame hP c d
  have es := fun l r => sawI hP l r
  have eb := fun c d => boxSameI hP c d
  clear hP
  intro hl
  clear hl
  simp only [oneS, Tryz.f38, hT, eA, Nat.beq, List.toArray, Nat.reduceAdd, Nat.reduceLT, Nat.reduceLeDiff, Int.reduceToNat]
  have hbu : a.up.length ≤ 140737488355328 := by have := ha.u; omega
  have hbc : a.cells.length ≤ 140737488355328 := by have := ha.c; omega
  have hbo : a.out.length ≤ 140737488355328 := by have := ha.o; omega
  have hbu2 : b.up.length ≤ 140737488355328 := by have := hb.u; omega
  have hbc2 : b.cells.length ≤ 140737488355328 := by have := hb.c; omega
  have hbo2 : b.out.length ≤ 140737488355328 := by have := hb.o; omega
  have bad : oneEqHd a b = false → false = oneEq a b := fun h => by unfold oneEq; rw [h, Bool.false_and]
  have bado : decide ((a.out.length : Int) = b.out.length) = false → false = oneEq a b := fun h => by
    unfold oneEq
    rw [decide_eq_false (p := a.out = b.out) (fun e => by rw [e] at h; simp at h)]
    simp only [Bool.false_and, Bool.and_false]
  simp only [oneS] at oa ob
  all_goals repeat' first
    | (refine If.mk (fun q => ?_) (fun q => ?_))
    | (show In64 _; exact ⟨by omega, by omega⟩)
    | (with_reducible refine And.intro ?_ ?_)
    | omega
    | (refine Fun.plain (oa) rfl rfl rfl rfl ?_; simp only [hT, Int.cast_ofNat_Int, Int.toNat_natCast, ↓If_lit, eA, Nat.beq, List.toArray, Nat.reduceAdd, Nat.reduceLT, Nat.reduceLeDiff, Int.reduceToNat])
    | (refine Fun.plain (ob) rfl rfl rfl rfl ?_; simp only [hT, Int.cast_ofNat_Int, Int.toNat_natCast, ↓If_lit, eA, Nat.beq, List.toArray, Nat.reduceAdd, Nat.reduceLT, Nat.reduceLeDiff, Int.reduceToNat])
    | assumption
    | (intro _)
  all_goals first
    | (clear oa ob ec es eb hT hm; (try simp only [Bool.not_eq_true', Bool.not_eq_false'] at *); refine bado ?_; assumption)
    | (clear oa ob ec es eb hT hm; (try simp only [Bool.not_eq_true', Bool.not_eq_false'] at *); refine bad ?_; clear bad bado ha hb hbu hbc hbo hbu2 hbc2 hbo2; unfold oneEqHd; simp only [*, decide_true, decide_false, Bool.true_or, Bool.or_true, Bool.false_or, Bool.or_false, Bool.not_true, Bool.not_false, Bool.true_and, Bool.and_true, Bool.false_and, Bool.and_false, Bool.and_self, Bool.or_self, Bool.not_not]; done)
    | skip
  have hhd : oneEqHd a b = true := by
    clear oa ob ec es eb hT hm bad bado ha hb hbu hbc hbo hbu2 hbc2 hbo2
    (try simp only [Bool.not_eq_true', Bool.not_eq_false'] at *)
    unfold oneEqHd; simp only [*, decide_true, decide_false, Bool.true_or, Bool.or_true, Bool.false_or, Bool.or_false, Bool.not_true, Bool.not_false, Bool.true_and, Bool.and_true, Bool.false_and, Bool.and_false, Bool.and_self, Bool.or_self, Bool.not_not]; done
  have h2 : decide ((a.out.length : Int) = b.out.length) = true := by
    clear oa ob ec es eb hT hm bad bado ha hb
    (try simp only [Bool.not_eq_true', Bool.not_eq_false'] at *)
    assumption
  have lo : a.out.length = b.out.length := by have := of_decide_eq_true h2; omega
  clear h2
  clear bad bado oa ob
  have hh := hhd
  unfold oneEqHd at hh
  simp only [Bool.and_eq_true, decide_eq_true_eq] at hh
  obtain ⟨ho1, ho2, lu, lc, _⟩ := hh
  obtain ⟨li1, ls1⟩ := oneB_lens ho1
  obtain ⟨li2, ls2⟩ := oneB_lens ho2
  have bad1 : (List.range a.up.length).all (upEq a b) = false → false = oneEq a b := fun h => by unfold oneEq; rw [h, Bool.false_and, Bool.and_false]
  have bad2 : (List.range a.cells.length).all (cellEq a b) = false → false = oneEq a b := fun h => by unfold oneEq; rw [h, Bool.false_and, Bool.and_false, Bool.and_false]
  have bad3 : (List.range a.out.length).all (boxRow a b) = false → false = oneEq a b := fun h => by
    rw [boxRow_all a b lo li1 li2] at h
    unfold oneEq; rw [h, Bool.and_false, Bool.and_false, Bool.and_false]
  refine wpc_loop {k : Nat // k ≤ a.up.length ∧ (List.range k).all (upEq a b) = true} (fun k => ⟨[(2, .cp 0 0 0), (3, .cp 1 0 0), (53, .sl 1 (a.up.map bE) bZ), (54, .int .i64 a.up.length), (55, .int .i64 k.1)], [(1, ⟨14, [oneS b], [], true⟩), (0, ⟨14, [oneS a], [], true⟩)], 2⟩) (fun k => a.up.length - k.1) ⟨0, Nat.zero_le _, rfl⟩ (Le.of [] (Nat.zero_le _) ?_ ?_ ?_) ?_
  · simp only [eL, eH, eG, leO, Nat.beq, Nat.reduceLT]
  · simp only [oneS, eL, eH, eG, leO, Nat.beq, Nat.reduceLT]; first | done | rfl | simp | omega
  · simp only [oneS, eL, eH, eG, leO, Nat.beq, Nat.reduceLT]
  · rintro ⟨k, hk, hp⟩
    by_cases hlt : k < a.up.length
    · have hf : decide ((k : Int) < a.up.length) = true := decide_eq_true (by omega)
      have hr1 : ∀ d, (a.up.map bE).getD k d = bE (a.up.getD k false) := fun d => getIn bE a.up k d false hlt
      have hr2 : ∀ d, (b.up.map bE).getD k d = bE (b.up.getD k false) := fun d => getIn bE b.up k d false (by omega)
      have hta := rall_succ (upEq a b) k
      have hab := rall_bad (upEq a b) a.up.length k hlt
      have hat : upEq a b k = (a.up.getD k false == b.up.getD k false) := rfl
      simp only [bE] at hr1 hr2
      simp only [hT, hf, hr1, hr2, oneS, Int.toNat_natCast, ↓If_lit, eA, Nat.beq, List.toArray, Nat.reduceAdd, Nat.reduceLT, Nat.reduceLeDiff, Int.reduceToNat]
      repeat' first | (with_reducible refine And.intro ?_ ?_) | omega | intro _
      have hbad : upEq a b k = false → false = oneEq a b := fun e => by exact bad1 (hab e)
      all_goals repeat' first
        | (refine If.mk (fun q => ?_) (fun q => ?_))
        | (show In64 _; exact ⟨by omega, by omega⟩)
        | (with_reducible refine And.intro ?_ ?_)
        | omega
        | (intro _)
      all_goals clear ec es eb hr1 hr2 hT hm
      all_goals try simp only [Bool.not_eq_true', Bool.not_eq_false'] at *
      all_goals first
        | exact hbad (by clear hbad; clear bad1 bad2 hab hta hp hlt hf hk hhd ho1 ho2 lu lc li1 ls1 li2 ls2; rw [hat]; assumption)
        | (have hok : upEq a b k = true := by clear hbad; clear bad1 bad2 hab hta hp hlt hf hk hhd ho1 ho2 lu lc li1 ls1 li2 ls2; rw [hat]; assumption
           try refine And.intro (show In64 _ from ⟨by omega, by omega⟩) ?_
           refine ⟨⟨k + 1, hlt, by rw [hta, hp, hok]; rfl⟩, by simp only; omega, Le.of [] (Nat.zero_le _) ?_ ?_ ?_⟩
           · simp only [eL, eH, eG, leO, Nat.beq, Nat.reduceLT]
           · simp only [oneS, eL, eH, eG, leO, Nat.beq, Nat.reduceLT]; first | done | rfl | simp | omega
           · simp only [oneS, eL, eH, eG, leO, Nat.beq, Nat.reduceLT])
    · obtain rfl : k = a.up.length := by omega
      have hf : decide ((a.up.length : Int) < a.up.length) = false := decide_eq_false (by omega)
      have hups := hp
      simp only [hT, hf, oneS, ↓If_lit, eA, Nat.beq, List.toArray, Nat.reduceAdd, Nat.reduceLT, Nat.reduceLeDiff, Int.reduceToNat]
      repeat' first | (with_reducible refine And.intro ?_ ?_) | omega | intro _
      refine wpc_loop {k : Nat // k ≤ a.cells.length ∧ (List.range k).all (cellEq a b) = true} (fun k => ⟨[(2, .cp 0 0 0), (3, .cp 1 0 0), (69, .sl 5 (a.cells.map celS) celZ), (70, .int .i64 a.cells.length), (71, .int .i64 k.1)], [(1, ⟨14, [oneS b], [], true⟩), (0, ⟨14, [oneS a], [], true⟩)], 2⟩) (fun k => a.cells.length - k.1) ⟨0, Nat.zero_le _, rfl⟩ (Le.of [] (Nat.zero_le _) ?_ ?_ ?_) ?_
      · simp only [eL, eH, eG, leO, Nat.beq, Nat.reduceLT]
      · simp only [oneS, eL, eH, eG, leO, Nat.beq, Nat.reduceLT]; first | done | rfl | simp | omega
      · simp only [oneS, eL, eH, eG, leO, Nat.beq, Nat.reduceLT]
      · rintro ⟨k, hk, hp⟩
        by_cases hlt : k < a.cells.length
        · have hf : decide ((k : Int) < a.cells.length) = true := decide_eq_true (by omega)
          have hr1 : ∀ d, (a.cells.map celS).getD k d = celS (a.cell k) := fun d => getIn celS a.cells k d cel0 hlt
          have hr2 : ∀ d, (b.cells.map celS).getD k d = celS (b.cell k) := fun d => getIn celS b.cells k d cel0 (by omega)
          have hr3 : ∀ d, (a.seen.map seenS).getD k d = seenS (a.seen.getD k []) := fun d => getIn seenS a.seen k d [] (by omega)
          have hr4 : ∀ d, (b.seen.map seenS).getD k d = seenS (b.seen.getD k []) := fun d => getIn seenS b.seen k d [] (by omega)
          have hta := rall_succ (cellEq a b) k
          have hab := rall_bad (cellEq a b) a.cells.length k hlt
          have hat : cellEq a b k = (sameC (a.cell k) (b.cell k) && decide (a.seen.getD k [] = b.seen.getD k [])) := rfl
          have ec := ec (a.cell k) (b.cell k)
          have es := es (a.seen.getD k []) (b.seen.getD k [])
          generalize sameC (a.cell k) (b.cell k) = r1 at *
          generalize decide (a.seen.getD k [] = b.seen.getD k []) = r2 at *
          simp only [celS, stS] at hr1 hr2 ec
          simp only [seenS] at hr3 hr4
          simp only [hT, hf, hr1, oneS, Int.toNat_natCast, ↓If_lit, eA, Nat.beq, List.toArray, Nat.reduceAdd, Nat.reduceLT, Nat.reduceLeDiff, Int.reduceToNat]
          repeat' first | (with_reducible refine And.intro ?_ ?_) | omega | intro _
          refine wpc_read [0, 1, 2, 3, 4, 5, 6, 7, 8, 9, 10, 11, 12, 13, 14, 15, 16, 17, 18, 19, 20, 21] hm (by kernel_rfl) ?_
          simp only [hT, hr1, hr2, hr3, hr4, Int.toNat_natCast, ↓If_lit, eT, ↓If_lit, Nat.reduceSub, reduceCtorEq, eA, Nat.beq, List.toArray, Nat.reduceAdd, Nat.reduceLT, Nat.reduceLeDiff, Int.reduceToNat]
          have hbad : cellEq a b k = false → false = oneEq a b := fun e => by exact bad2 (hab e)
          all_goals repeat' first
            | (refine If.mk (fun q => ?_) (fun q => ?_))
            | (show In64 _; exact ⟨by omega, by omega⟩)
            | (with_reducible refine And.intro ?_ ?_)
            | omega
            | (refine Fun.pcall (ec) (by exact rfl) rfl rfl rfl rfl ?_; simp only [hT, hr1, hr2, hr3, hr4, Int.toNat_natCast, ↓If_lit, eT, ↓If_lit, Nat.reduceSub, reduceCtorEq, eA, Nat.beq, List.toArray, Nat.reduceAdd, Nat.reduceLT, Nat.reduceLeDiff, Int.reduceToNat])
            | (refine Fun.pcall (es) (by exact rfl) rfl rfl rfl rfl ?_; simp only [hT, hr1, hr2, hr3, hr4, Int.toNat_natCast, ↓If_lit, eT, ↓If_lit, Nat.reduceSub, reduceCtorEq, eA, Nat.beq, List.toArray, Nat.reduceAdd, Nat.reduceLT, Nat.reduceLeDiff, Int.reduceToNat])
            | (intro _)
          all_goals clear ec es eb hr1 hr2 hr3 hr4 hT hm
          all_goals try simp only [Bool.not_eq_true', Bool.not_eq_false'] at *
          all_goals first
            | exact hbad (by clear hbad; clear bad1 bad2 hab hta hp hlt hf hk hhd ho1 ho2 lu lc li1 ls1 li2 ls2; rw [hat]; simp only [*, decide_true, decide_false, Bool.true_or, Bool.or_true, Bool.false_or, Bool.or_false, Bool.not_true, Bool.not_false, Bool.true_and, Bool.and_true, Bool.false_and, Bool.and_false, Bool.and_self, Bool.or_self, Bool.not_not]; done)
            | (have hok : cellEq a b k = true := by clear hbad; clear bad1 bad2 hab hta hp hlt hf hk hhd ho1 ho2 lu lc li1 ls1 li2 ls2; rw [hat]; simp only [*, decide_true, decide_false, Bool.true_or, Bool.or_true, Bool.false_or, Bool.or_false, Bool.not_true, Bool.not_false, Bool.true_and, Bool.and_true, Bool.false_and, Bool.and_false, Bool.and_self, Bool.or_self, Bool.not_not]; done
               try refine And.intro (show In64 _ from ⟨by omega, by omega⟩) ?_
               refine ⟨⟨k + 1, hlt, by rw [hta, hp, hok]; rfl⟩, by simp only; omega, Le.of [] (Nat.zero_le _) ?_ ?_ ?_⟩
               · simp only [eL, eH, eG, leO, Nat.beq, Nat.reduceLT]
               · simp only [oneS, eL, eH, eG, leO, Nat.beq, Nat.reduceLT]; first | done | rfl | simp | omega
               · simp only [oneS, eL, eH, eG, leO, Nat.beq, Nat.reduceLT])
        · obtain rfl : k = a.cells.length := by omega
          have hf : decide ((a.cells.length : Int) < a.cells.length) = false := decide_eq_false (by omega)
          have hcells := hp
          simp only [hT, hf, oneS, ↓If_lit, eA, Nat.beq, List.toArray, Nat.reduceAdd, Nat.reduceLT, Nat.reduceLeDiff, Int.reduceToNat]
          repeat' first | (with_reducible refine And.intro ?_ ?_) | omega | intro _
          refine wpc_loop {k : Nat // k ≤ a.out.length ∧ (List.range k).all (boxRow a b) = true} (fun k => ⟨[(2, .cp 0 0 0), (3, .cp 1 0 0), (101, .int .i64 a.out.length), (102, .int .i64 k.1)], [(1, ⟨14, [oneS b], [], true⟩), (0, ⟨14, [oneS a], [], true⟩)], 2⟩) (fun k => a.out.length - k.1) ⟨0, Nat.zero_le _, rfl⟩ (Le.of [] (Nat.zero_le _) ?_ ?_ ?_) ?_
          · simp only [eL, eH, eG, leO, Nat.beq, Nat.reduceLT]
          · simp only [oneS, eL, eH, eG, leO, Nat.beq, Nat.reduceLT]; first | done | rfl | simp | omega
          · simp only [oneS, eL, eH, eG, leO, Nat.beq, Nat.reduceLT]
          · rintro ⟨k, hk, hp⟩
            by_cases hlt : k < a.out.length
            · have hf : decide ((k : Int) < a.out.length) = true := decide_eq_true (by omega)
              have hr1 : ∀ d, (a.out.map boxS).getD k d = boxS (a.ob k) := fun d => getIn boxS a.out k d box0 hlt
              have hr2 : ∀ d, (b.out.map boxS).getD k d = boxS (b.ob k) := fun d => getIn boxS b.out k d box0 (by omega)
              have hr3 : ∀ d, (a.inn.map boxS).getD k d = boxS (a.ib k) := fun d => getIn boxS a.inn k d box0 (by omega)
              have hr4 : ∀ d, (b.inn.map boxS).getD k d = boxS (b.ib k) := fun d => getIn boxS b.inn k d box0 (by omega)
              have hta := rall_succ (boxRow a b) k
              have hab := rall_bad (boxRow a b) a.out.length k hlt
              have hat : boxRow a b k = (decide (a.ob k = b.ob k) && decide (a.ib k = b.ib k)) := rfl
              have eo := eb (a.ob k) (b.ob k)
              have ei := eb (a.ib k) (b.ib k)
              generalize decide (a.ob k = b.ob k) = r1 at *
              generalize decide (a.ib k = b.ib k) = r2 at *
              simp only [boxS] at hr1 hr2 hr3 hr4 eo ei
              simp only [hT, hf, oneS, Int.toNat_natCast, ↓If_lit, eA, Nat.beq, List.toArray, Nat.reduceAdd, Nat.reduceLT, Nat.reduceLeDiff, Int.reduceToNat]
              repeat' first | (with_reducible refine And.intro ?_ ?_) | omega | intro _
              refine wpc_read [0, 1, 2, 3, 4, 5, 6, 7, 8, 9, 10, 11, 12, 13, 14, 15, 16, 17, 18, 19, 20, 21, 22, 23, 24, 25] hm (by kernel_rfl) ?_
              simp only [hT, hr1, hr2, hr3, hr4, Int.toNat_natCast, ↓If_lit, eT, ↓If_lit, Nat.reduceSub, reduceCtorEq, eA, Nat.beq, List.toArray, Nat.reduceAdd, Nat.reduceLT, Nat.reduceLeDiff, Int.reduceToNat]
              have hbad : boxRow a b k = false → false = oneEq a b := fun e => by exact bad3 (hab e)
              all_goals repeat' first
                | (refine If.mk (fun q => ?_) (fun q => ?_))
                | (show In64 _; exact ⟨by omega, by omega⟩)
                | (with_reducible refine And.intro ?_ ?_)
                | omega
                | (refine Fun.pcall (eo) (by exact rfl) rfl rfl rfl rfl ?_; simp only [hT, hr1, hr2, hr3, hr4, Int.toNat_natCast, ↓If_lit, eT, ↓If_lit, Nat.reduceSub, reduceCtorEq, eA, Nat.beq, List.toArray, Nat.reduceAdd, Nat.reduceLT, Nat.reduceLeDiff, Int.reduceToNat])
                | (refine Fun.pcall (ei) (by exact rfl) rfl rfl rfl rfl ?_; simp only [hT, hr1, hr2, hr3, hr4, Int.toNat_natCast, ↓If_lit, eT, ↓If_lit, Nat.reduceSub, reduceCtorEq, eA, Nat.beq, List.toArray, Nat.reduceAdd, Nat.reduceLT, Nat.reduceLeDiff, Int.reduceToNat])
                | (intro _)
              all_goals clear eo ei ec es eb hr1 hr2 hr3 hr4 hT hm
              all_goals try simp only [Bool.not_eq_true', Bool.not_eq_false'] at *
              all_goals first
                | exact hbad (by clear hbad; clear bad3; clear bad1 bad2 hab hta hp hlt hf hk hhd ho1 ho2 lu lc li1 ls1 li2 ls2; rw [hat]; simp only [*, decide_true, decide_false, Bool.true_or, Bool.or_true, Bool.false_or, Bool.or_false, Bool.not_true, Bool.not_false, Bool.true_and, Bool.and_true, Bool.false_and, Bool.and_false, Bool.and_self, Bool.or_self, Bool.not_not]; done)
                | (have hok : boxRow a b k = true := by clear hbad; clear bad3; clear bad1 bad2 hab hta hp hlt hf hk hhd ho1 ho2 lu lc li1 ls1 li2 ls2; rw [hat]; simp only [*, decide_true, decide_false, Bool.true_or, Bool.or_true, Bool.false_or, Bool.or_false, Bool.not_true, Bool.not_false, Bool.true_and, Bool.and_true, Bool.false_and, Bool.and_false, Bool.and_self, Bool.or_self, Bool.not_not]; done
                   try refine And.intro (show In64 _ from ⟨by omega, by omega⟩) ?_
                   refine ⟨⟨k + 1, hlt, by rw [hta, hp, hok]; rfl⟩, by simp only; omega, Le.of [] (Nat.zero_le _) ?_ ?_ ?_⟩
                   · simp only [eL, eH, eG, leO, Nat.beq, Nat.reduceLT]
                   · simp only [oneS, eL, eH, eG, leO, Nat.beq, Nat.reduceLT]; first | done | rfl | simp | omega
                   · simp only [oneS, eL, eH, eG, leO, Nat.beq, Nat.reduceLT])
            · obtain rfl : k = a.out.length := by omega
              have hf : decide ((a.out.length : Int) < a.out.length) = false := decide_eq_false (by omega)
              simp only [hT, hf, oneS, ↓If_lit, eA, Nat.beq, List.toArray, Nat.reduceAdd, Nat.reduceLT, Nat.reduceLeDiff, Int.reduceToNat]
              repeat intro _
              rw [boxRow_all a b lo li1 li2] at hp
              unfold oneEq; rw [hhd, hups, hcells, hp]; rfl
theorem TY_oneSameS {P : Program} (hP : P = Tryz.prog) : ((((P.follows .mixedOrders = true) ∧ (tyT P 73 = some ((true, 14)))) ∧ ((fldT P 73 1 = some ((7, (false, 1)))) ∧ ((tyT P 64 = some ((false, 1))) ∧ (lkT P 64 = 1)))) ∧ (((fldT P 73 2 = some ((8, (false, 1)))) ∧ ((tyT P 29 = some ((false, 1))) ∧ (lkT P 29 = 1))) ∧ ((fldT P 73 6 = some ((12, (false, 1)))) ∧ ((tyT P 3 = some ((false, 1))) ∧ (elT P 64 = some ((false, (1, 1)))))))) ∧ ((((tyT P 4 = some ((false, 1))) ∧ (bolT P 4 = true)) ∧ ((elT P 29 = some ((true, (5, 88)))) ∧ ((tyT P 151 = some ((true, 5))) ∧ (fldT P 73 7 = some ((13, (false, 1))))))) ∧ (((tyT P 71 = some ((false, 1))) ∧ ((elT P 71 = some ((false, (1, 24)))) ∧ (tyT P 143 = some ((false, 1))))) ∧ ((fldT P 73 3 = some ((9, (false, 1)))) ∧ ((tyT P 30 = some ((false, 1))) ∧ (fldT P 73 4 = some ((10, (false, 1)))))))) := by subst hP; refine ⟨⟨⟨⟨?_, ?_⟩, ⟨?_, ⟨?_, ?_⟩⟩⟩, ⟨⟨?_, ⟨?_, ?_⟩⟩, ⟨?_, ⟨?_, ?_⟩⟩⟩⟩, ⟨⟨⟨?_, ?_⟩, ⟨?_, ⟨?_, ?_⟩⟩⟩, ⟨⟨?_, ⟨?_, ?_⟩⟩, ⟨?_, ⟨?_, ?_⟩⟩⟩⟩⟩ <;> kernel_rfl
theorem oneSameS {P : Program} [Known P] (hP : P = Tryz.prog) (a b : VOne) (ha : SzO a) (hb : SzO b) : Fun P 37 [.agg (oneS a), .agg (oneS b)] (.bool (oneEq a b)) := by
  refine fun_of (fn := Tryz.f37) (hP ▸ Tryz.func37) (by kernel_rfl) (by kernel_rfl) (by kernel_rfl) (by kernel_rfl) ?_
  have hT := TY_oneSameS hP
  have hm : P.follows .mixedOrders = true := by subst hP; kernel_rfl
  have oa := oneOkS hP a ha
  have ob := oneOkS hP b hb
  have ec := fun c d => sameCellS hP c d
  have es := fun l r => sawS hP l r
  have eb := fun c d => boxesS hP c d
  clear hP
  intro hl
  clear hl
  simp only [oneS, Tryz.f37, hT, eA, Nat.beq, List.toArray, Nat.reduceAdd, Nat.reduceLT, Nat.reduceLeDiff, Int.reduceToNat]
  have hbu : a.up.length ≤ 140737488355328 := by have := ha.u; omega
  have hbc : a.cells.length ≤ 140737488355328 := by have := ha.c; omega
  have hbo : a.out.length ≤ 140737488355328 := by have := ha.o; omega
  have hbu2 : b.up.length ≤ 140737488355328 := by have := hb.u; omega
  have hbc2 : b.cells.length ≤ 140737488355328 := by have := hb.c; omega
  have hbo2 : b.out.length ≤ 140737488355328 := by have := hb.o; omega
  have bad : oneEqHd a b = false → false = oneEq a b := fun h => by unfold oneEq; rw [h, Bool.false_and]
  have bado : decide ((a.out.length : Int) = b.out.length) = false → false = oneEq a b := fun h => by
    unfold oneEq
    rw [decide_eq_false (p := a.out = b.out) (fun e => by rw [e] at h; simp at h)]
    simp only [Bool.false_and, Bool.and_false]
  simp only [oneS] at oa ob
  all_goals repeat' first
    | (refine If.mk (fun q => ?_) (fun q => ?_))
    | (show In64 _; exact ⟨by omega, by omega⟩)
    | (with_reducible refine And.intro ?_ ?_)
    | omega
    | (refine Fun.plain (oa) rfl rfl rfl rfl ?_; simp only [hT, Int.cast_ofNat_Int, Int.toNat_natCast, ↓If_lit, eA, Nat.beq, List.toArray, Nat.reduceAdd, Nat.reduceLT, Nat.reduceLeDiff, Int.reduceToNat])
    | (refine Fun.plain (ob) rfl rfl rfl rfl ?_; simp only [hT, Int.cast_ofNat_Int, Int.toNat_natCast, ↓If_lit, eA, Nat.beq, List.toArray, Nat.reduceAdd, Nat.reduceLT, Nat.reduceLeDiff, Int.reduceToNat])
    | assumption
    | (intro _)
  all_goals first
    | (clear oa ob ec es eb hT hm; (try simp only [Bool.not_eq_true', Bool.not_eq_false'] at *); refine bado ?_; assumption)
    | (clear oa ob ec es eb hT hm; (try simp only [Bool.not_eq_true', Bool.not_eq_false'] at *); refine bad ?_; clear bad bado ha hb hbu hbc hbo hbu2 hbc2 hbo2; unfold oneEqHd; simp only [*, decide_true, decide_false, Bool.true_or, Bool.or_true, Bool.false_or, Bool.or_false, Bool.not_true, Bool.not_false, Bool.true_and, Bool.and_true, Bool.false_and, Bool.and_false, Bool.and_self, Bool.or_self, Bool.not_not]; done)
    | skip
  have hhd : oneEqHd a b = true := by
    clear oa ob ec es eb hT hm bad bado ha hb hbu hbc hbo hbu2 hbc2 hbo2
    (try simp only [Bool.not_eq_true', Bool.not_eq_false'] at *)
    unfold oneEqHd; simp only [*, decide_true, decide_false, Bool.true_or, Bool.or_true, Bool.false_or, Bool.or_false, Bool.not_true, Bool.not_false, Bool.true_and, Bool.and_true, Bool.false_and, Bool.and_false, Bool.and_self, Bool.or_self, Bool.not_not]; done
  clear bad bado oa ob
  have hh := hhd
  unfold oneEqHd at hh
  simp only [Bool.and_eq_true, decide_eq_true_eq] at hh
  obtain ⟨ho1, ho2, lu, lc, _⟩ := hh
  obtain ⟨li1, ls1⟩ := oneB_lens ho1
  obtain ⟨li2, ls2⟩ := oneB_lens ho2
  have bad1 : (List.range a.up.length).all (upEq a b) = false → false = oneEq a b := fun h => by unfold oneEq; rw [h, Bool.false_and, Bool.and_false]
  have bad2 : (List.range a.cells.length).all (cellEq a b) = false → false = oneEq a b := fun h => by unfold oneEq; rw [h, Bool.false_and, Bool.and_false, Bool.and_false]
  refine wpc_loop {k : Nat // k ≤ a.up.length ∧ (List.range k).all (upEq a b) = true} (fun k => ⟨[(2, .cp 0 0 0), (3, .cp 1 0 0), (5, .int .i64 k.1)], [(1, ⟨14, [oneS b], [], true⟩), (0, ⟨14, [oneS a], [], true⟩)], 2⟩) (fun k => a.up.length - k.1) ⟨0, Nat.zero_le _, rfl⟩ (Le.of [] (Nat.zero_le _) ?_ ?_ ?_) ?_
  · simp only [eL, eH, eG, leO, Nat.beq, Nat.reduceLT]
  · simp only [oneS, eL, eH, eG, leO, Nat.beq, Nat.reduceLT]; first | done | rfl | simp | omega
  · simp only [oneS, eL, eH, eG, leO, Nat.beq, Nat.reduceLT]
  · rintro ⟨k, hk, hp⟩
    by_cases hlt : k < a.up.length
    · have hf : decide ((k : Int) < a.up.length) = true := decide_eq_true (by omega)
      have hr1 : ∀ d, (a.up.map bE).getD k d = bE (a.up.getD k false) := fun d => getIn bE a.up k d false hlt
      have hr2 : ∀ d, (b.up.map bE).getD k d = bE (b.up.getD k false) := fun d => getIn bE b.up k d false (by omega)
      have hta := rall_succ (upEq a b) k
      have hab := rall_bad (upEq a b) a.up.length k hlt
      have hat : upEq a b k = (a.up.getD k false == b.up.getD k false) := rfl
      simp only [bE] at hr1 hr2
      simp only [hT, hf, hr1, hr2, oneS, Int.toNat_natCast, ↓If_lit, eA, Nat.beq, List.toArray, Nat.reduceAdd, Nat.reduceLT, Nat.reduceLeDiff, Int.reduceToNat]
      repeat' first | (with_reducible refine And.intro ?_ ?_) | omega | intro _
      refine wpc_read [0, 1, 2, 3, 4, 5, 6, 7, 8, 9, 10] hm (by kernel_rfl) ?_
      simp only [hT, hr1, hr2, Int.toNat_natCast, ↓If_lit, eT, ↓If_lit, Nat.reduceSub, reduceCtorEq, eA, Nat.beq, List.toArray, Nat.reduceAdd, Nat.reduceLT, Nat.reduceLeDiff, Int.reduceToNat]
      have hbad : upEq a b k = false → false = oneEq a b := fun e => by exact bad1 (hab e)
      all_goals repeat' first
        | (refine If.mk (fun q => ?_) (fun q => ?_))
        | (show In64 _; exact ⟨by omega, by omega⟩)
        | (with_reducible refine And.intro ?_ ?_)
        | omega
        | (intro _)
      all_goals clear ec es eb hr1 hr2 hT hm
      all_goals try simp only [Bool.not_eq_true', Bool.not_eq_false'] at *
      all_goals first
        | exact hbad (by clear hbad; clear bad1 bad2 hab hta hp hlt hf hk hhd ho1 ho2 lu lc li1 ls1 li2 ls2; rw [hat]; assumption)
        | (have hok : upEq a b k = true := by clear hbad; clear bad1 bad2 hab hta hp hlt hf hk hhd ho1 ho2 lu lc li1 ls1 li2 ls2; rw [hat]; assumption
           try refine And.intro (show In64 _ from ⟨by omega, by omega⟩) ?_
           refine ⟨⟨k + 1, hlt, by rw [hta, hp, hok]; rfl⟩, by simp only; omega, Le.of [] (Nat.zero_le _) ?_ ?_ ?_⟩
           · simp only [eL, eH, eG, leO, Nat.beq, Nat.reduceLT]
           · simp only [oneS, eL, eH, eG, leO, Nat.beq, Nat.reduceLT]; first | done | rfl | simp | omega
           · simp only [oneS, eL, eH, eG, leO, Nat.beq, Nat.reduceLT])
    · obtain rfl : k = a.up.length := by omega
      have hf : decide ((a.up.length : Int) < a.up.length) = false := decide_eq_false (by omega)
      have hups := hp
      simp only [hT, hf, oneS, ↓If_lit, eA, Nat.beq, List.toArray, Nat.reduceAdd, Nat.reduceLT, Nat.reduceLeDiff, Int.reduceToNat]
      repeat' first | (with_reducible refine And.intro ?_ ?_) | omega | intro _
      refine wpc_loop {k : Nat // k ≤ a.cells.length ∧ (List.range k).all (cellEq a b) = true} (fun k => ⟨[(2, .cp 0 0 0), (3, .cp 1 0 0), (6, .int .i64 k.1)], [(1, ⟨14, [oneS b], [], true⟩), (0, ⟨14, [oneS a], [], true⟩)], 2⟩) (fun k => a.cells.length - k.1) ⟨0, Nat.zero_le _, rfl⟩ (Le.of [] (Nat.zero_le _) ?_ ?_ ?_) ?_
      · simp only [eL, eH, eG, leO, Nat.beq, Nat.reduceLT]
      · simp only [oneS, eL, eH, eG, leO, Nat.beq, Nat.reduceLT]; first | done | rfl | simp | omega
      · simp only [oneS, eL, eH, eG, leO, Nat.beq, Nat.reduceLT]
      · rintro ⟨k, hk, hp⟩
        by_cases hlt : k < a.cells.length
        · have hf : decide ((k : Int) < a.cells.length) = true := decide_eq_true (by omega)
          have hr1 : ∀ d, (a.cells.map celS).getD k d = celS (a.cell k) := fun d => getIn celS a.cells k d cel0 hlt
          have hr2 : ∀ d, (b.cells.map celS).getD k d = celS (b.cell k) := fun d => getIn celS b.cells k d cel0 (by omega)
          have hr3 : ∀ d, (a.seen.map seenS).getD k d = seenS (a.seen.getD k []) := fun d => getIn seenS a.seen k d [] (by omega)
          have hr4 : ∀ d, (b.seen.map seenS).getD k d = seenS (b.seen.getD k []) := fun d => getIn seenS b.seen k d [] (by omega)
          have hta := rall_succ (cellEq a b) k
          have hab := rall_bad (cellEq a b) a.cells.length k hlt
          have hat : cellEq a b k = (sameC (a.cell k) (b.cell k) && decide (a.seen.getD k [] = b.seen.getD k [])) := rfl
          have ec := ec (a.cell k) (b.cell k)
          have es := es (a.seen.getD k []) (b.seen.getD k [])
          generalize sameC (a.cell k) (b.cell k) = r1 at *
          generalize decide (a.seen.getD k [] = b.seen.getD k []) = r2 at *
          simp only [celS, stS] at hr1 hr2 ec
          simp only [seenS] at hr3 hr4
          simp only [hT, hf, hr1, oneS, Int.toNat_natCast, ↓If_lit, eA, Nat.beq, List.toArray, Nat.reduceAdd, Nat.reduceLT, Nat.reduceLeDiff, Int.reduceToNat]
          repeat' first | (with_reducible refine And.intro ?_ ?_) | omega | intro _
          refine wpc_read [0, 1, 2, 3, 4, 5, 6, 7, 8, 9, 10, 11, 12, 13, 14, 15, 16, 17, 18, 19, 20, 21, 22, 23, 24, 25] hm (by kernel_rfl) ?_
          simp only [hT, hr1, hr2, hr3, hr4, Int.toNat_natCast, ↓If_lit, eT, ↓If_lit, Nat.reduceSub, reduceCtorEq, eA, Nat.beq, List.toArray, Nat.reduceAdd, Nat.reduceLT, Nat.reduceLeDiff, Int.reduceToNat]
          have hbad : cellEq a b k = false → false = oneEq a b := fun e => by exact bad2 (hab e)
          all_goals repeat' first
            | (refine If.mk (fun q => ?_) (fun q => ?_))
            | (show In64 _; exact ⟨by omega, by omega⟩)
            | (with_reducible refine And.intro ?_ ?_)
            | omega
            | (refine Fun.pcall (ec) (by exact rfl) rfl rfl rfl rfl ?_; simp only [hT, hr1, hr2, hr3, hr4, Int.toNat_natCast, ↓If_lit, eT, ↓If_lit, Nat.reduceSub, reduceCtorEq, eA, Nat.beq, List.toArray, Nat.reduceAdd, Nat.reduceLT, Nat.reduceLeDiff, Int.reduceToNat])
            | (refine Fun.pcall (es) (by exact rfl) rfl rfl rfl rfl ?_; simp only [hT, hr1, hr2, hr3, hr4, Int.toNat_natCast, ↓If_lit, eT, ↓If_lit, Nat.reduceSub, reduceCtorEq, eA, Nat.beq, List.toArray, Nat.reduceAdd, Nat.reduceLT, Nat.reduceLeDiff, Int.reduceToNat])
            | (intro _)
          all_goals clear ec es eb hr1 hr2 hr3 hr4 hT hm
          all_goals try simp only [Bool.not_eq_true', Bool.not_eq_false'] at *
          all_goals first
            | exact hbad (by clear hbad; clear bad1 bad2 hab hta hp hlt hf hk hhd ho1 ho2 lu lc li1 ls1 li2 ls2; rw [hat]; simp only [*, decide_true, decide_false, Bool.true_or, Bool.or_true, Bool.false_or, Bool.or_false, Bool.not_true, Bool.not_false, Bool.true_and, Bool.and_true, Bool.false_and, Bool.and_false, Bool.and_self, Bool.or_self, Bool.not_not]; done)
            | (have hok : cellEq a b k = true := by clear hbad; clear bad1 bad2 hab hta hp hlt hf hk hhd ho1 ho2 lu lc li1 ls1 li2 ls2; rw [hat]; simp only [*, decide_true, decide_false, Bool.true_or, Bool.or_true, Bool.false_or, Bool.or_false, Bool.not_true, Bool.not_false, Bool.true_and, Bool.and_true, Bool.false_and, Bool.and_false, Bool.and_self, Bool.or_self, Bool.not_not]; done
               try refine And.intro (show In64 _ from ⟨by omega, by omega⟩) ?_
               refine ⟨⟨k + 1, hlt, by rw [hta, hp, hok]; rfl⟩, by simp only; omega, Le.of [] (Nat.zero_le _) ?_ ?_ ?_⟩
               · simp only [eL, eH, eG, leO, Nat.beq, Nat.reduceLT]
               · simp only [oneS, eL, eH, eG, leO, Nat.beq, Nat.reduceLT]; first | done | rfl | simp | omega
               · simp only [oneS, eL, eH, eG, leO, Nat.beq, Nat.reduceLT])
        · obtain rfl : k = a.cells.length := by omega
          have hf : decide ((a.cells.length : Int) < a.cells.length) = false := decide_eq_false (by omega)
          have hcells := hp
          simp only [hT, hf, oneS, ↓If_lit, eA, Nat.beq, List.toArray, Nat.reduceAdd, Nat.reduceLT, Nat.reduceLeDiff, Int.reduceToNat]
          repeat' first | (with_reducible refine And.intro ?_ ?_) | omega | intro _
          have eo := eb a.out b.out
          have ei := eb a.inn b.inn
          have hv : oneEq a b = (decide (a.out = b.out) && decide (a.inn = b.inn)) := by unfold oneEq; rw [hhd, hups, hcells]; simp only [Bool.true_and]
          rw [hv]
          generalize decide (a.out = b.out) = r1 at *
          generalize decide (a.inn = b.inn) = r2 at *
          refine Fun.plain eo rfl rfl rfl rfl ?_
          simp only [hT, ↓If_lit, eA, Nat.beq, List.toArray, Nat.reduceAdd, Nat.reduceLT, Nat.reduceLeDiff, Int.reduceToNat]
          refine If.mk (fun q => ?_) (fun q => ?_)
          · refine Fun.plain ei rfl rfl rfl rfl ?_
            simp only [hT, ↓If_lit, eA, Nat.beq, List.toArray, Nat.reduceAdd, Nat.reduceLT, Nat.reduceLeDiff, Int.reduceToNat]
            try simp only [q, Bool.true_and]
          · simp only [q, Bool.false_and]
end Go.Proofs.YtjlmfcddbcoimaaGreat.C
