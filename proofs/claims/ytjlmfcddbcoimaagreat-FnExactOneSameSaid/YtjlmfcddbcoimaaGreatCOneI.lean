/- Whether the one machine is ok, by the given text: the whole. -/
import Derived.Test.YtjlmfcddbcoimaaGreatCOneH
set_option maxRecDepth 100000
set_option maxHeartbeats 4000000
set_option linter.unusedSimpArgs false
set_option linter.unusedVariables false
namespace Go.Proofs.YtjlmfcddbcoimaaGreat.C
open Go Go.Av Go.Proofs
theorem range_all_at {α : Type} (f : α → Bool) (l : List α) (d : α) : (List.range l.length).all (fun k => f (l.getD k d)) = l.all f := by
  rw [Bool.eq_iff_iff, List.all_eq_true, List.all_eq_true]
  refine ⟨fun h x hx => ?_, fun h k hk => ?_⟩
  · obtain ⟨i, hi, rfl⟩ := List.getElem_of_mem hx
    have := h i (by simpa using hi)
    rwa [List.getD_eq_getElem?_getD, List.getElem?_eq_getElem hi, Option.getD_some] at this
  · have hi : k < l.length := by simpa using hk
    rw [List.getD_eq_getElem?_getD, List.getElem?_eq_getElem hi, Option.getD_some]
    exact h _ (List.getElem_mem hi)
theorem range_and (f g : Nat → Bool) (n : Nat) : (List.range n).all (fun k => f k && g k) = ((List.range n).all f && (List.range n).all g) := by
  rw [Bool.eq_iff_iff, Bool.and_eq_true, List.all_eq_true, List.all_eq_true, List.all_eq_true]
  exact ⟨fun h => ⟨fun x hx => (Bool.and_eq_true _ _ ▸ h x hx).1, fun x hx => (Bool.and_eq_true _ _ ▸ h x hx).2⟩, fun h x hx => by rw [h.1 x hx, h.2 x hx]; rfl⟩
def cellSaw (a : VOne) (k : Nat) : Bool := oneCell a k && seenB (a.seen.getD k [])
def oneH1 (a : VOne) : Bool := (res a.plan).isNone && (decide ((a.up.length : Int) = a.plan.1) && (decide ((a.cells.length : Int) = a.plan.cells.length) && (decide ((a.seen.length : Int) = a.plan.cells.length) && (decide (0 ≤ a.now) && decide (a.now ≤ 20000)))))
def oneH2 (a : VOne) : Bool := decide ((a.out.length : Int) = a.plan.ways.length) && (decide ((a.inn.length : Int) = a.plan.ways.length) && decide ((a.air.length : Int) = a.plan.ways.length))
theorem oneB_eq (a : VOne) : oneB a = (oneH1 a && (oneH2 a && ((List.range a.cells.length).all (cellSaw a) && (List.range a.plan.ways.length).all (wayAir a)))) := by
  unfold oneB oneH1 oneH2 oneSz airAll seenAll nowB
  by_cases h1 : (a.seen.length : Int) = a.plan.cells.length
  · by_cases h2 : (a.air.length : Int) = a.plan.ways.length
    · by_cases h3 : (a.cells.length : Int) = a.plan.cells.length
      · have e1 : (List.range a.cells.length).all (cellSaw a) = ((List.range a.cells.length).all (oneCell a) && a.seen.all seenB) := by
          rw [← range_all_at seenB a.seen [], show a.seen.length = a.cells.length by omega, ← range_and]; rfl
        have e2 : (List.range a.plan.ways.length).all (wayAir a) = ((List.range a.plan.ways.length).all (oneWay a) && a.air.all airB) := by
          rw [← range_all_at airB a.air [], show a.air.length = a.plan.ways.length by omega, ← range_and]; rfl
        rw [e1, e2, decide_eq_true h1, decide_eq_true h2]
        simp only [Bool.true_and, Bool.and_true]
        ac_rfl
      · simp [decide_eq_false h3]
    · simp [decide_eq_false h2]
  · simp [decide_eq_false h1]
theorem TY_oneOkS {P : Program} (hP : P = Tryz.prog) : ((((fldT P 73 0 = some ((0, (true, 7)))) ∧ ((tyT P 43 = some ((true, 7))) ∧ (fldT P 73 1 = some ((7, (false, 1)))))) ∧ (((tyT P 64 = some ((false, 1))) ∧ (lkT P 64 = 1)) ∧ ((fldT P 43 0 = some ((0, (false, 1)))) ∧ (tyT P 3 = some ((false, 1)))))) ∧ ((((fldT P 73 2 = some ((8, (false, 1)))) ∧ (tyT P 29 = some ((false, 1)))) ∧ ((lkT P 29 = 1) ∧ (fldT P 43 3 = some ((3, (false, 1)))))) ∧ (((tyT P 39 = some ((false, 1))) ∧ (lkT P 39 = 1)) ∧ ((fldT P 73 7 = some ((13, (false, 1)))) ∧ (tyT P 71 = some ((false, 1))))))) ∧ ((((lkT P 71 = 1) ∧ ((fldT P 73 6 = some ((12, (false, 1)))) ∧ (fldT P 43 4 = some ((4, (false, 1)))))) ∧ (((tyT P 40 = some ((false, 1))) ∧ (lkT P 40 = 1)) ∧ ((fldT P 73 3 = some ((9, (false, 1)))) ∧ (tyT P 30 = some ((false, 1)))))) ∧ ((((lkT P 30 = 1) ∧ (fldT P 73 4 = some ((10, (false, 1))))) ∧ ((fldT P 73 5 = some ((11, (false, 1)))) ∧ (tyT P 65 = some ((false, 1))))) ∧ (((lkT P 65 = 1) ∧ (tyT P 73 = some ((true, 14)))) ∧ ((elT P 71 = some ((false, (1, 24)))) ∧ (tyT P 143 = some ((false, 1))))))) := by subst hP; refine ⟨⟨⟨⟨?_, ⟨?_, ?_⟩⟩, ⟨⟨?_, ?_⟩, ⟨?_, ?_⟩⟩⟩, ⟨⟨⟨?_, ?_⟩, ⟨?_, ?_⟩⟩, ⟨⟨?_, ?_⟩, ⟨?_, ?_⟩⟩⟩⟩, ⟨⟨⟨?_, ⟨?_, ?_⟩⟩, ⟨⟨?_, ?_⟩, ⟨?_, ?_⟩⟩⟩, ⟨⟨⟨?_, ?_⟩, ⟨?_, ?_⟩⟩, ⟨⟨?_, ?_⟩, ⟨?_, ?_⟩⟩⟩⟩⟩ <;> kernel_rfl
theorem oneOkS {P : Program} [Known P] (hP : P = Tryz.prog) (a : VOne) (ha : SzO a) : Fun P 33 [.agg (oneS a)] (.bool (oneB a)) := by
  refine fun_of (fn := Tryz.f33) (hP ▸ Tryz.func33) (by kernel_rfl) (by kernel_rfl) (by kernel_rfl) (by kernel_rfl) ?_
  have hT := TY_oneOkS hP
  have hm : P.follows .mixedOrders = true := by subst hP; kernel_rfl
  have oi := plnOkS hP a.plan ha.p
  have ec := fun (k : Nat) h1 h2 h3 => l19Cell hP a ha k h1 h2 h3
  have ew := fun (k : Nat) h1 h2 h3 h4 h5 h6 h7 h8 => l19Way hP a ha k h1 h2 h3 h4 h5 h6 h7 h8
  have se := fun l => seenS1 hP l
  have l1 := fun x a b => l1In hP x a b
  clear hP
  intro hl
  clear hl
  simp only [oneS, Tryz.f33, hT, eA, Nat.beq, List.toArray, Nat.reduceAdd, Nat.reduceLT, Nat.reduceLeDiff, Int.reduceToNat]
  have hbc : a.cells.length ≤ 140737488355328 := by have := ha.c; omega
  have hbu : a.up.length ≤ 140737488355328 := by have := ha.u; omega
  have hbo : a.out.length ≤ 140737488355328 := by have := ha.o; omega
  have hbi : a.inn.length ≤ 140737488355328 := by have := ha.i; omega
  have hba : a.air.length ≤ 140737488355328 := by have := ha.r; omega
  have hbs : a.seen.length ≤ 140737488355328 := by have := ha.s; omega
  have hpc : a.plan.cells.length ≤ 140737488355328 := by have := ha.p.c; omega
  have hpw : a.plan.ways.length ≤ 140737488355328 := by have := ha.p.w; omega
  have bad : oneH1 a = false → false = oneB a := fun h => by rw [oneB_eq, h, Bool.false_and]
  have bad1 : oneH2 a = false → false = oneB a := fun h => by rw [oneB_eq, h, Bool.false_and, Bool.and_false]
  simp only [plnS] at oi
  all_goals repeat' first
    | (refine If.mk (fun q => ?_) (fun q => ?_))
    | (show In64 _; exact ⟨by omega, by omega⟩)
    | (with_reducible refine And.intro ?_ ?_)
    | omega
    | (refine Fun.plain (oi) rfl rfl rfl rfl ?_; simp only [hT, Int.cast_ofNat_Int, Int.toNat_natCast, ↓If_lit, eA, Nat.beq, List.toArray, Nat.reduceAdd, Nat.reduceLT, Nat.reduceLeDiff, Int.reduceToNat])
    | (refine Fun.plain (l1 _ _ _) rfl rfl rfl rfl ?_; simp only [hT, Int.cast_ofNat_Int, Int.toNat_natCast, ↓If_lit, eA, Nat.beq, List.toArray, Nat.reduceAdd, Nat.reduceLT, Nat.reduceLeDiff, Int.reduceToNat])
    | assumption
    | (intro _)
  all_goals (try simp only [Bool.not_eq_true', Bool.not_eq_false'] at *)
  all_goals first
    | (refine bad ?_; clear bad bad1; unfold oneH1; simp only [*, decide_true, decide_false, Bool.true_or, Bool.or_true, Bool.false_or, Bool.or_false, Bool.not_true, Bool.not_false, Bool.true_and, Bool.and_true, Bool.false_and, Bool.and_false, Bool.and_self, Bool.or_self, Bool.not_not]; done)
    | (refine bad1 ?_; clear bad bad1; unfold oneH2; simp only [*, decide_true, decide_false, Bool.true_or, Bool.or_true, Bool.false_or, Bool.or_false, Bool.not_true, Bool.not_false, Bool.true_and, Bool.and_true, Bool.false_and, Bool.and_false, Bool.and_self, Bool.or_self, Bool.not_not]; done)
    | skip
  have h1 : oneH1 a = true := by clear bad bad1; unfold oneH1; simp only [*, decide_true, decide_false, Bool.true_or, Bool.or_true, Bool.false_or, Bool.or_false, Bool.not_true, Bool.not_false, Bool.true_and, Bool.and_true, Bool.false_and, Bool.and_false, Bool.and_self, Bool.or_self, Bool.not_not]; done
  have h2 : oneH2 a = true := by clear bad bad1; unfold oneH2; simp only [*, decide_true, decide_false, Bool.true_or, Bool.or_true, Bool.false_or, Bool.or_false, Bool.not_true, Bool.not_false, Bool.true_and, Bool.and_true, Bool.false_and, Bool.and_false, Bool.and_self, Bool.or_self, Bool.not_not]; done
  clear bad bad1
  have hh1 := h1
  have hh2 := h2
  unfold oneH1 at hh1
  unfold oneH2 at hh2
  simp only [Bool.and_eq_true, decide_eq_true_eq] at hh1 hh2
  obtain ⟨hr0, lu, lc, ls, _⟩ := hh1
  obtain ⟨lo, li, la⟩ := hh2
  have hr : res a.plan = none := by simpa using hr0
  have bad2 : (List.range a.cells.length).all (cellSaw a) = false → false = oneB a := fun h => by rw [oneB_eq, h, Bool.false_and, Bool.and_false, Bool.and_false]
  have bad3 : (List.range a.plan.ways.length).all (wayAir a) = false → false = oneB a := fun h => by rw [oneB_eq, h, Bool.and_false, Bool.and_false, Bool.and_false]
  refine wpc_loop {k : Nat // k ≤ a.cells.length ∧ (List.range k).all (cellSaw a) = true} (fun k => ⟨[(1, .cp 0 0 0), (3, .int .i64 a.plan.ways.length), (4, .int .i64 k.1)], [(0, ⟨14, [oneS a], [], true⟩)], 1⟩) (fun k => a.cells.length - k.1) ⟨0, Nat.zero_le _, rfl⟩ (Le.of [] (Nat.zero_le _) ?_ ?_ ?_) ?_
  · simp only [eL, eH, eG, leO, Nat.beq, Nat.reduceLT]
  · simp only [oneS, eL, eH, eG, leO, Nat.beq, Nat.reduceLT]; first | done | rfl | simp | omega
  · simp only [oneS, eL, eH, eG, leO, Nat.beq, Nat.reduceLT]
  · rintro ⟨k, hk, hp⟩
    by_cases hlt : k < a.cells.length
    · have hf : decide ((k : Int) < a.cells.length) = true := decide_eq_true (by omega)
      have hr1 : ∀ d, (a.seen.map seenS).getD k d = seenS (a.seen.getD k []) := fun d => getIn seenS a.seen k d [] (by omega)
      have hta := rall_succ (cellSaw a) k
      have hab := rall_bad (cellSaw a) a.cells.length k hlt
      have hat : cellSaw a k = (oneCell a k && seenB (a.seen.getD k [])) := rfl
      have ec := ec k hlt lc (by rw [lu]; exact res_cells hr k (by omega))
      have se := se (a.seen.getD k [])
      generalize oneCell a k = r1 at *
      generalize seenB (a.seen.getD k []) = r2 at *
      simp only [oneS] at ec
      simp only [seenS] at hr1
      simp only [hT, hf, hr1, oneS, Int.toNat_natCast, ↓If_lit, eA, Nat.beq, List.toArray, Nat.reduceAdd, Nat.reduceLT, Nat.reduceLeDiff, Int.reduceToNat]
      repeat' first | (with_reducible refine And.intro ?_ ?_) | omega | intro _
      have hbad : cellSaw a k = false → false = oneB a := fun e => by exact bad2 (hab e)
      all_goals repeat' first
        | (refine If.mk (fun q => ?_) (fun q => ?_))
        | (show In64 _; exact ⟨by omega, by omega⟩)
        | (with_reducible refine And.intro ?_ ?_)
        | omega
        | (refine Fun.plain (ec) rfl rfl rfl rfl ?_; simp only [hT, hr1, Int.cast_ofNat_Int, Int.toNat_natCast, ↓If_lit, eA, Nat.beq, List.toArray, Nat.reduceAdd, Nat.reduceLT, Nat.reduceLeDiff, Int.reduceToNat])
        | (refine Fun.plain (se) rfl rfl rfl rfl ?_; simp only [hT, hr1, Int.cast_ofNat_Int, Int.toNat_natCast, ↓If_lit, eA, Nat.beq, List.toArray, Nat.reduceAdd, Nat.reduceLT, Nat.reduceLeDiff, Int.reduceToNat])
        | (intro _)
      all_goals clear oi ec ew se l1 hr1 hT hm
      all_goals try simp only [Bool.not_eq_true', Bool.not_eq_false'] at *
      all_goals first
        | exact hbad (by clear hbad; clear bad2 bad3 hab hta hp lu lc ls lo li la hlt hf hk; rw [hat]; simp only [*, decide_true, decide_false, Bool.true_or, Bool.or_true, Bool.false_or, Bool.or_false, Bool.not_true, Bool.not_false, Bool.true_and, Bool.and_true, Bool.false_and, Bool.and_false, Bool.and_self, Bool.or_self, Bool.not_not]; done)
        | (have hok : cellSaw a k = true := by clear hbad; clear bad2 bad3 hab hta hp lu lc ls lo li la hlt hf hk; rw [hat]; simp only [*, decide_true, decide_false, Bool.true_or, Bool.or_true, Bool.false_or, Bool.or_false, Bool.not_true, Bool.not_false, Bool.true_and, Bool.and_true, Bool.false_and, Bool.and_false, Bool.and_self, Bool.or_self, Bool.not_not]; done
           try refine And.intro (show In64 _ from ⟨by omega, by omega⟩) ?_
           refine ⟨⟨k + 1, hlt, by rw [hta, hp, hok]; rfl⟩, by simp only; omega, Le.of [] (Nat.zero_le _) ?_ ?_ ?_⟩
           · simp only [eL, eH, eG, leO, Nat.beq, Nat.reduceLT]
           · simp only [oneS, eL, eH, eG, leO, Nat.beq, Nat.reduceLT]; first | done | rfl | simp | omega
           · simp only [oneS, eL, eH, eG, leO, Nat.beq, Nat.reduceLT])
    · obtain rfl : k = a.cells.length := by omega
      have hf : decide ((a.cells.length : Int) < a.cells.length) = false := decide_eq_false (by omega)
      have hcells := hp
      simp only [hT, hf, oneS, ↓If_lit, eA, Nat.beq, List.toArray, Nat.reduceAdd, Nat.reduceLT, Nat.reduceLeDiff, Int.reduceToNat]
      repeat' first | (with_reducible refine And.intro ?_ ?_) | omega | intro _
      refine wpc_loop {k : Nat // k ≤ a.plan.ways.length ∧ (List.range k).all (wayAir a) = true} (fun k => ⟨[(1, .cp 0 0 0), (3, .int .i64 a.plan.ways.length), (5, .int .i64 k.1)], [(0, ⟨14, [oneS a], [], true⟩)], 1⟩) (fun k => a.plan.ways.length - k.1) ⟨0, Nat.zero_le _, rfl⟩ (Le.of [] (Nat.zero_le _) ?_ ?_ ?_) ?_
      · simp only [eL, eH, eG, leO, Nat.beq, Nat.reduceLT]
      · simp only [oneS, eL, eH, eG, leO, Nat.beq, Nat.reduceLT]; first | done | rfl | simp | omega
      · simp only [oneS, eL, eH, eG, leO, Nat.beq, Nat.reduceLT]
      · rintro ⟨k, hk, hp⟩
        by_cases hlt : k < a.plan.ways.length
        · have hf : decide ((k : Int) < a.plan.ways.length) = true := decide_eq_true (by omega)
          have hta := rall_succ (wayAir a) k
          have hab := rall_bad (wayAir a) a.plan.ways.length k hlt
          obtain ⟨w1, w2⟩ := res_ways hr k hlt
          have ew := ew k hlt lo li la w1 w2 (by rw [lu]; exact res_begins hr k hlt) (by rw [lu]; exact res_ends hr k hlt)
          simp only [oneS] at ew
          simp only [hT, hf, oneS, Int.toNat_natCast, ↓If_lit, eA, Nat.beq, List.toArray, Nat.reduceAdd, Nat.reduceLT, Nat.reduceLeDiff, Int.reduceToNat]
          repeat' first | (with_reducible refine And.intro ?_ ?_) | omega | intro _
          have hbad : wayAir a k = false → false = oneB a := fun e => by exact bad3 (hab e)
          all_goals repeat' first
            | (refine If.mk (fun q => ?_) (fun q => ?_))
            | (show In64 _; exact ⟨by omega, by omega⟩)
            | (with_reducible refine And.intro ?_ ?_)
            | omega
            | (refine Fun.plain (ew) rfl rfl rfl rfl ?_; simp only [hT, Int.cast_ofNat_Int, Int.toNat_natCast, ↓If_lit, eA, Nat.beq, List.toArray, Nat.reduceAdd, Nat.reduceLT, Nat.reduceLeDiff, Int.reduceToNat])
            | (intro _)
          all_goals clear oi ec ew se l1 hT hm
          all_goals try simp only [Bool.not_eq_true', Bool.not_eq_false'] at *
          all_goals first
            | exact hbad (by clear hbad; assumption)
            | (have hok : wayAir a k = true := by clear hbad; assumption
               try refine And.intro (show In64 _ from ⟨by omega, by omega⟩) ?_
               refine ⟨⟨k + 1, hlt, by rw [hta, hp, hok]; rfl⟩, by simp only; omega, Le.of [] (Nat.zero_le _) ?_ ?_ ?_⟩
               · simp only [eL, eH, eG, leO, Nat.beq, Nat.reduceLT]
               · simp only [oneS, eL, eH, eG, leO, Nat.beq, Nat.reduceLT]; first | done | rfl | simp | omega
               · simp only [oneS, eL, eH, eG, leO, Nat.beq, Nat.reduceLT])
        · obtain rfl : k = a.plan.ways.length := by omega
          have hf : decide ((a.plan.ways.length : Int) < a.plan.ways.length) = false := decide_eq_false (by omega)
          simp only [hT, hf, oneS, ↓If_lit, eA, Nat.beq, List.toArray, Nat.reduceAdd, Nat.reduceLT, Nat.reduceLeDiff, Int.reduceToNat]
          repeat intro _
          rw [oneB_eq, h1, h2, hcells, hp]; rfl
end Go.Proofs.YtjlmfcddbcoimaaGreat.C
