/- Whether the one machine's cells and ways are ok, by the given text. -/
import Derived.Test.YtjlmfcddbcoimaaGreatCOneD
import Derived.Test.YtjlmfcddbcoimaaGreatCNodY
set_option maxRecDepth 100000
set_option maxHeartbeats 4000000
set_option linter.unusedSimpArgs false
set_option linter.unusedVariables false
namespace Go.Proofs.YtjlmfcddbcoimaaGreat.C
open Go Go.Av Go.Proofs
theorem TY_l19Cell {P : Program} (hP : P = Tryz.prog) : ((((P.follows .mixedOrders = true) ∧ (fldT P 73 2 = some ((8, (false, 1))))) ∧ ((tyT P 29 = some ((false, 1))) ∧ ((elT P 29 = some ((true, (5, 88)))) ∧ (tyT P 151 = some ((true, 5)))))) ∧ (((zeroT P 151 = some (((.int .i64 0) :: (.nils :: (.nils :: ((.int .i64 0) :: (.nils :: []))))))) ∧ (fldT P 151 0 = some ((0, (true, 4))))) ∧ ((fldT P 148 0 = some ((0, (false, 1)))) ∧ ((tyT P 3 = some ((false, 1))) ∧ (fldT P 73 0 = some ((0, (true, 7)))))))) ∧ ((((fldT P 43 3 = some ((3, (false, 1)))) ∧ (tyT P 39 = some ((false, 1)))) ∧ ((elT P 39 = some ((true, (5, 56)))) ∧ ((fldT P 156 3 = some ((4, (false, 1)))) ∧ (tyT P 154 = some ((false, 1)))))) ∧ (((lkT P 154 = 1) ∧ ((fldT P 73 1 = some ((7, (false, 1)))) ∧ (tyT P 64 = some ((false, 1))))) ∧ ((fldT P 156 0 = some ((0, (false, 1)))) ∧ ((elT P 64 = some ((false, (1, 1)))) ∧ (tyT P 4 = some ((false, 1))))))) := by subst hP; refine ⟨⟨⟨⟨?_, ?_⟩, ⟨?_, ⟨?_, ?_⟩⟩⟩, ⟨⟨?_, ?_⟩, ⟨?_, ⟨?_, ?_⟩⟩⟩⟩, ⟨⟨⟨?_, ?_⟩, ⟨?_, ⟨?_, ?_⟩⟩⟩, ⟨⟨?_, ⟨?_, ?_⟩⟩, ⟨?_, ⟨?_, ?_⟩⟩⟩⟩⟩ <;> kernel_rfl
theorem l19Cell {P : Program} [Known P] (hP : P = Tryz.prog) (a : VOne) (ha : SzO a) (k : Nat) (hk : k < a.cells.length) (lc : (a.cells.length : Int) = a.plan.cells.length) (hn : has (a.plan.cell k).1 a.up.length = true) : Fun P 107 [.agg (oneS a), .int .i64 k] (.bool (oneCell a k)) := by
  refine fun_of (fn := Tryz.f107) (hP ▸ Tryz.func107) (by kernel_rfl) (by kernel_rfl) (by kernel_rfl) (by kernel_rfl) ?_
  have hT := TY_l19Cell hP
  have hm : P.follows .mixedOrders = true := by subst hP; kernel_rfl
  have ec := fun c => celOkS hP c
  have e2 := celNewS hP
  have e3 := fun c d => sameCellS hP c d
  clear hP
  intro hl
  clear hl
  simp only [oneS, Tryz.f107, hT, eA, Nat.beq, List.toArray, Nat.reduceAdd, Nat.reduceLT, Nat.reduceLeDiff, Int.reduceToNat]
  have hbc : a.cells.length ≤ 140737488355328 := by have := ha.c; omega
  have hbk : (a.plan.cell k).2.2.2.1.length ≤ 140737488355328 := Nat.le_trans (ha.p.cs k (by omega)) (by omega)
  have hr1 : ∀ d, (a.cells.map celS).getD k d = celS (a.cell k) := fun d => getIn celS a.cells k d cel0 hk
  have hr2 : ∀ d, (a.plan.cells.map cellS).getD k d = cellS (a.plan.cell k) := fun d => getIn cellS a.plan.cells k d c0 (by omega)
  obtain ⟨hn1, hn2⟩ := has_iff hn
  have hr3 : ∀ d, (a.up.map bE).getD (a.plan.cell k).1.toNat d = bE (a.upAt (a.plan.cell k).1) := fun d => getIn bE a.up _ d false (by omega)
  have hat : oneCell a k = (celOkB (a.cell k) && (decide ((a.cell k).1.1 ≤ ((a.plan.cell k).2.2.2.1.length : Int)) && (a.upAt (a.plan.cell k).1 || sameC (a.cell k) celN))) := rfl
  have ec := ec (a.cell k)
  have e3 := e3 (a.cell k) celN
  rw [hat]
  clear hat
  generalize sameC (a.cell k) celN = bs at *
  generalize celOkB (a.cell k) = b1 at *
  simp only [celN, stN] at e3
  simp only [celO, celN, stN, stO] at e2
  simp only [celS, stS] at ec e3
  simp only [celS, cellS] at hr1 hr2
  simp only [bE] at hr3
  generalize a.upAt (a.plan.cell k).1 = u at *
  simp only [hT, hr1, Int.toNat_natCast, ↓If_lit, eA, Nat.beq, List.toArray, Nat.reduceAdd, Nat.reduceLT, Nat.reduceLeDiff, Int.reduceToNat]
  repeat' first | (with_reducible refine And.intro ?_ ?_) | omega
  refine wpc_draw (.alt 0 (.alt 1 (.take 2 (.take 3 (.take 4 (.take 6 (.take 7 (.take 9 (.alt 5 (.alt 8 (.take 10 (.take 11 (.take 12 (.take 13 (.take 14 (.take 15 (.take 16 (.take 17 (.take 19 (.take 20 (.take 22 (.alt 18 (.alt 21 (.take 23 (.take 24 (.take 25 (.take 26 (.take 27 (.take 28 (.alt 29 (.alt 30 (.alt 31 (.take 32 (.take 33 (.alt 34 .done .stop))) .stop) .stop) (.alt 30 (.alt 29 (.alt 31 (.take 32 (.take 33 (.alt 34 .done .stop))) .stop) .stop) .stop)))))))) .stop) (.alt 21 (.take 23 (.take 24 (.take 25 (.alt 18 (.take 26 (.take 27 (.take 28 (.alt 29 (.alt 30 (.alt 31 (.take 32 (.take 33 (.alt 34 .done .stop))) .stop) .stop) (.alt 30 (.alt 29 (.alt 31 (.take 32 (.take 33 (.alt 34 .done .stop))) .stop) .stop) .stop))))) .stop)))) .stop))))))))))))) .stop) (.alt 8 (.take 10 (.take 11 (.take 12 (.take 13 (.alt 5 (.take 14 (.take 15 (.take 16 (.take 17 (.take 19 (.take 20 (.take 22 (.alt 18 (.alt 21 (.take 23 (.take 24 (.take 25 (.take 26 (.take 27 (.take 28 (.alt 29 (.alt 30 (.alt 31 (.take 32 (.take 33 (.alt 34 .done .stop))) .stop) .stop) (.alt 30 (.alt 29 (.alt 31 (.take 32 (.take 33 (.alt 34 .done .stop))) .stop) .stop) .stop)))))))) .stop) (.alt 21 (.take 23 (.take 24 (.take 25 (.alt 18 (.take 26 (.take 27 (.take 28 (.alt 29 (.alt 30 (.alt 31 (.take 32 (.take 33 (.alt 34 .done .stop))) .stop) .stop) (.alt 30 (.alt 29 (.alt 31 (.take 32 (.take 33 (.alt 34 .done .stop))) .stop) .stop) .stop))))) .stop)))) .stop))))))))) .stop))))) .stop)))))))) .stop) .stop) hm (by kernel_rfl) ?_
  simp only [hT, hr2, hr3, Int.toNat_natCast, ↓If_lit, eT, ↓If_lit, PCall, Nat.reduceSub, reduceCtorEq, eA, Nat.beq, List.toArray, Nat.reduceAdd, Nat.reduceLT, Nat.reduceLeDiff, Int.reduceToNat]
  all_goals repeat' first
    | (refine If.mk (fun q => ?_) (fun q => ?_))
    | (show In64 _; exact ⟨by omega, by omega⟩)
    | (with_reducible refine And.intro ?_ ?_)
    | omega
    | (refine Fun.plain (ec) rfl rfl rfl rfl ?_; simp only [hT, hr2, hr3, Int.toNat_natCast, ↓If_lit, eT, ↓If_lit, PCall, Nat.reduceSub, reduceCtorEq, eA, Nat.beq, List.toArray, Nat.reduceAdd, Nat.reduceLT, Nat.reduceLeDiff, Int.reduceToNat])
    | exact hbk
    | (refine Fun.plain (e2) rfl rfl rfl rfl ?_; simp only [hT, hr2, hr3, Int.toNat_natCast, ↓If_lit, eT, ↓If_lit, PCall, Nat.reduceSub, reduceCtorEq, eA, Nat.beq, List.toArray, Nat.reduceAdd, Nat.reduceLT, Nat.reduceLeDiff, Int.reduceToNat])
    | (refine Fun.lent e3 (by simp only [Int.cast_ofNat_Int, List.map_cons, List.map_nil, pur, geth, Nat.beq, cond_true, cond_false, rdR_byt, rdL, AV.rd, AV.nbV, AV.nb, rdR_int, rdR_byt]; rfl) (by rfl) rfl rfl rfl ?_; simp only [hT, hr2, hr3, ↓If_lit, eT, ↓If_lit, PCall, Nat.reduceSub, reduceCtorEq, eA, Nat.beq, List.toArray, Nat.reduceAdd, Nat.reduceLT, Nat.reduceLeDiff, Int.reduceToNat])
    | rfl
    | (intro _)
  all_goals (clear ec e2 e3 hr1 hr2 hr3 hT hm; clear ec e3 ha hn hn1 hn2 lc hk hbc hbk; (try simp only [Bool.not_eq_true', Bool.not_eq_false'] at *); simp only [*, decide_true, decide_false, Bool.true_or, Bool.or_true, Bool.false_or, Bool.or_false, Bool.not_true, Bool.not_false, Bool.true_and, Bool.and_true, Bool.false_and, Bool.and_false, Bool.and_self, Bool.or_self, Bool.not_not]; done)
def wayAir (a : VOne) (k : Nat) : Bool := oneWay a k && airB (a.air.getD k [])
theorem TY_l19Way {P : Program} (hP : P = Tryz.prog) : (((((P.follows .mixedOrders = true) ∧ (fldT P 73 0 = some ((0, (true, 7))))) ∧ ((fldT P 43 4 = some ((4, (false, 1)))) ∧ (tyT P 40 = some ((false, 1))))) ∧ (((elT P 40 = some ((true, (5, 56)))) ∧ (tyT P 160 = some ((true, 5)))) ∧ ((zeroT P 160 = some (((.int .i64 0) :: ((.int .i64 0) :: ((.int .i64 0) :: ((.bool false) :: (.nils :: []))))))) ∧ (fldT P 73 3 = some ((9, (false, 1))))))) ∧ ((((tyT P 30 = some ((false, 1))) ∧ (elT P 30 = some ((true, (2, 32))))) ∧ ((tyT P 163 = some ((true, 2))) ∧ (fldT P 73 4 = some ((10, (false, 1)))))) ∧ (((fldT P 163 0 = some ((0, (false, 1)))) ∧ (tyT P 3 = some ((false, 1)))) ∧ ((fldT P 160 2 = some ((2, (false, 1)))) ∧ (fldT P 73 5 = some ((11, (false, 1)))))))) ∧ (((((tyT P 65 = some ((false, 1))) ∧ (elT P 65 = some ((false, (1, 24))))) ∧ ((tyT P 79 = some ((false, 1))) ∧ (lkT P 79 = 1))) ∧ (((elT P 79 = some ((false, (1, 24)))) ∧ (tyT P 149 = some ((false, 1)))) ∧ ((fldT P 73 1 = some ((7, (false, 1)))) ∧ (tyT P 64 = some ((false, 1)))))) ∧ ((((fldT P 43 3 = some ((3, (false, 1)))) ∧ (tyT P 39 = some ((false, 1)))) ∧ ((fldT P 160 0 = some ((0, (false, 1)))) ∧ (elT P 39 = some ((true, (5, 56)))))) ∧ (((fldT P 156 0 = some ((0, (false, 1)))) ∧ (elT P 64 = some ((false, (1, 1))))) ∧ ((tyT P 4 = some ((false, 1))) ∧ ((fldT P 163 1 = some ((1, (false, 1)))) ∧ (fldT P 160 1 = some ((1, (false, 1))))))))) := by subst hP; refine ⟨⟨⟨⟨⟨?_, ?_⟩, ⟨?_, ?_⟩⟩, ⟨⟨?_, ?_⟩, ⟨?_, ?_⟩⟩⟩, ⟨⟨⟨?_, ?_⟩, ⟨?_, ?_⟩⟩, ⟨⟨?_, ?_⟩, ⟨?_, ?_⟩⟩⟩⟩, ⟨⟨⟨⟨?_, ?_⟩, ⟨?_, ?_⟩⟩, ⟨⟨?_, ?_⟩, ⟨?_, ?_⟩⟩⟩, ⟨⟨⟨?_, ?_⟩, ⟨?_, ?_⟩⟩, ⟨⟨?_, ?_⟩, ⟨?_, ⟨?_, ?_⟩⟩⟩⟩⟩⟩ <;> kernel_rfl
theorem l19Way {P : Program} [Known P] (hP : P = Tryz.prog) (a : VOne) (ha : SzO a) (k : Nat) (hk : k < a.plan.ways.length) (lo : (a.out.length : Int) = a.plan.ways.length) (li : (a.inn.length : Int) = a.plan.ways.length) (la : (a.air.length : Int) = a.plan.ways.length) (w1 : has (a.plan.way k).1 a.plan.cells.length = true) (w2 : has (a.plan.way k).2.1 a.plan.cells.length = true) (hb : has (begins a.plan k) a.up.length = true) (he : has (ends a.plan k) a.up.length = true) : Fun P 109 [.agg (oneS a), .int .i64 k] (.bool (wayAir a k)) := by
  refine fun_of (fn := Tryz.f109) (hP ▸ Tryz.func109) (by kernel_rfl) (by kernel_rfl) (by kernel_rfl) (by kernel_rfl) ?_
  have hT := TY_l19Way hP
  have hm : P.follows .mixedOrders = true := by subst hP; kernel_rfl
  have bo := fun b => boxOkS hP b
  have mb := fun m => messageS hP m
  clear hP
  intro hl
  clear hl
  simp only [oneS, Tryz.f109, hT, eA, Nat.beq, List.toArray, Nat.reduceAdd, Nat.reduceLT, Nat.reduceLeDiff, Int.reduceToNat]
  have hwl : a.plan.ways.length ≤ 140737488355328 := by have := ha.p.w; omega
  have hbo : a.out.length ≤ 140737488355328 := by have := ha.o; omega
  have hbi : a.inn.length ≤ 140737488355328 := by have := ha.i; omega
  have hba : a.air.length ≤ 140737488355328 := by have := ha.r; omega
  have hob : (a.ob k).2.1.length ≤ 140737488355328 := Nat.le_trans (ha.o1 k (by omega)) (by omega)
  have hib : (a.ib k).2.1.length ≤ 140737488355328 := Nat.le_trans (ha.i1 k (by omega)) (by omega)
  have hair : (a.air.getD k []).length ≤ 140737488355328 := Nat.le_trans (ha.r1 k (by omega)) (by omega)
  have hr1 : ∀ d, (a.plan.ways.map wayS).getD k d = wayS (a.plan.way k) := fun d => getIn wayS a.plan.ways k d w0 hk
  have hr3 : ∀ d, (a.out.map boxS).getD k d = boxS (a.ob k) := fun d => getIn boxS a.out k d box0 (by omega)
  have hr4 : ∀ d, (a.inn.map boxS).getD k d = boxS (a.ib k) := fun d => getIn boxS a.inn k d box0 (by omega)
  have hr5 : ∀ d, (a.air.map airS).getD k d = airS (a.air.getD k []) := fun d => getIn airS a.air k d [] (by omega)
  obtain ⟨f1, f2⟩ := has_iff w1
  obtain ⟨t1, t2⟩ := has_iff w2
  have hr6 : ∀ d, (a.plan.cells.map cellS).getD (a.plan.way k).1.toNat d = cellS (a.plan.cell (a.plan.way k).1.toNat) := fun d => getIn cellS a.plan.cells _ d c0 (by omega)
  have hr7 : ∀ d, (a.plan.cells.map cellS).getD (a.plan.way k).2.1.toNat d = cellS (a.plan.cell (a.plan.way k).2.1.toNat) := fun d => getIn cellS a.plan.cells _ d c0 (by omega)
  obtain ⟨hb1, hb2⟩ := has_iff hb
  obtain ⟨he1, he2⟩ := has_iff he
  have hbe : begins a.plan k = (a.plan.cell (a.plan.way k).1.toNat).1 := by unfold begins; rw [Int.toNat_natCast]
  have hen : ends a.plan k = (a.plan.cell (a.plan.way k).2.1.toNat).1 := by unfold ends; rw [Int.toNat_natCast]
  rw [hbe] at hb1 hb2
  rw [hen] at he1 he2
  have hr8 : ∀ d, (a.up.map bE).getD (a.plan.cell (a.plan.way k).1.toNat).1.toNat d = bE (a.upAt (a.plan.cell (a.plan.way k).1.toNat).1) := fun d => getIn bE a.up _ d false (by omega)
  have hr9 : ∀ d, (a.up.map bE).getD (a.plan.cell (a.plan.way k).2.1.toNat).1.toNat d = bE (a.upAt (a.plan.cell (a.plan.way k).2.1.toNat).1) := fun d => getIn bE a.up _ d false (by omega)
  have hat : wayAir a k = (bxB (a.ob k) && (bxB (a.ib k) && (decide ((a.ob k).1 = (a.plan.way k).2.2.1) && (decide ((a.ib k).1 = (a.plan.way k).2.2.1) && (!decide (12 < ((a.air.getD k []).length : Int)) && ((a.air.getD k []).all msgB && ((a.upAt (a.plan.cell (a.plan.way k).1.toNat).1 || decide (((a.ob k).2.1.length : Int) = 0)) && (a.upAt (a.plan.cell (a.plan.way k).2.1.toNat).1 || decide (((a.ib k).2.1.length : Int) = 0))))))))) := by
    unfold wayAir oneWay boxB airB
    rw [hbe, hen, show decide (((a.air.getD k []).length : Int) ≤ 12) = !decide (12 < ((a.air.getD k []).length : Int)) from by rw [Bool.eq_iff_iff]; simp]
    generalize bxB (a.ob k) = b1
    generalize bxB (a.ib k) = b2
    generalize decide ((a.ob k).1 = (a.plan.way k).2.2.1) = b3
    generalize decide ((a.ib k).1 = (a.plan.way k).2.2.1) = b4
    generalize decide (12 < ((a.air.getD k []).length : Int)) = b5
    generalize (a.air.getD k []).all msgB = b6
    generalize a.upAt (a.plan.cell (a.plan.way k).1.toNat).1 = b7
    generalize a.upAt (a.plan.cell (a.plan.way k).2.1.toNat).1 = b8
    generalize decide (((a.ob k).2.1.length : Int) = 0) = b9
    generalize decide (((a.ib k).2.1.length : Int) = 0) = b10
    cases b1 <;> cases b2 <;> cases b3 <;> cases b4 <;> cases b5 <;> cases b6 <;> cases b7 <;> cases b8 <;> simp only [decide_true, decide_false, Bool.true_or, Bool.or_true, Bool.false_or, Bool.or_false, Bool.not_true, Bool.not_false, Bool.true_and, Bool.and_true, Bool.false_and, Bool.and_false, Bool.and_self, Bool.or_self, Bool.not_not]
  rw [hat]
  have eo := bo (a.ob k)
  have ei := bo (a.ib k)
  clear hbe hen hat bo
  generalize bxB (a.ob k) = v1 at *
  generalize bxB (a.ib k) = v2 at *
  generalize a.air.getD k [] = x at *
  simp only [boxS, wayS, cellS, airS, bE] at eo ei hr1 hr3 hr4 hr5 hr6 hr7 hr8 hr9
  simp only [hT, hr1, Int.toNat_natCast, ↓If_lit, eA, Nat.beq, List.toArray, Nat.reduceAdd, Nat.reduceLT, Nat.reduceLeDiff, Int.reduceToNat]
  repeat' first | (with_reducible refine And.intro ?_ ?_) | omega
  refine wpc_read [0, 1, 2, 3, 4, 5, 6, 7, 8, 9, 10, 11, 12, 13, 14, 15, 16, 17, 18, 19, 20, 21, 22, 23, 24, 25, 26, 27, 28, 29, 30, 31, 32, 33, 34, 35, 36, 37, 38, 39, 40, 41, 42, 43, 44, 45, 46] hm (by kernel_rfl) ?_
  simp only [hT, hr3, hr4, hr5, Int.toNat_natCast, ↓If_lit, eT, ↓If_lit, Nat.reduceSub, reduceCtorEq, eA, Nat.beq, List.toArray, Nat.reduceAdd, Nat.reduceLT, Nat.reduceLeDiff, Int.reduceToNat]
  all_goals repeat' first
    | (refine If.mk (fun q => ?_) (fun q => ?_))
    | (show In64 _; exact ⟨by omega, by omega⟩)
    | (with_reducible refine And.intro ?_ ?_)
    | omega
    | (refine Fun.pcall (eo) (by exact rfl) rfl rfl rfl rfl ?_; simp only [hT, hr3, hr4, hr5, Int.toNat_natCast, ↓If_lit, eT, ↓If_lit, Nat.reduceSub, reduceCtorEq, eA, Nat.beq, List.toArray, Nat.reduceAdd, Nat.reduceLT, Nat.reduceLeDiff, Int.reduceToNat])
    | (refine Fun.pcall (ei) (by exact rfl) rfl rfl rfl rfl ?_; simp only [hT, hr3, hr4, hr5, Int.toNat_natCast, ↓If_lit, eT, ↓If_lit, Nat.reduceSub, reduceCtorEq, eA, Nat.beq, List.toArray, Nat.reduceAdd, Nat.reduceLT, Nat.reduceLeDiff, Int.reduceToNat])
    | exact hair
    | (intro _)
  all_goals try simp only [Bool.not_eq_true', Bool.not_eq_false'] at *
  all_goals first
    | (clear eo ei hr1 hr3 hr4 hr5 hr6 hr7 hr8 hr9 hT hm mb ha hk lo li la w1 w2 hb he hwl hbo hbi hba hob hib hair f1 f2 t1 t2 hb1 hb2 he1 he2; simp only [*, decide_true, decide_false, Bool.true_or, Bool.or_true, Bool.false_or, Bool.or_false, Bool.not_true, Bool.not_false, Bool.true_and, Bool.and_true, Bool.false_and, Bool.and_false, Bool.and_self, Bool.or_self, Bool.not_not]; done)
    | skip
  have hhd : ∀ q1 q2 q3 q4 q5 z : Bool, v1 = q1 → v2 = q2 → decide ((a.ob k).1 = (a.plan.way k).2.2.1) = q3 → decide ((a.ib k).1 = (a.plan.way k).2.2.1) = q4 → decide (12 < (x.length : Int)) = q5 → (v1 && (v2 && (decide ((a.ob k).1 = (a.plan.way k).2.2.1) && (decide ((a.ib k).1 = (a.plan.way k).2.2.1) && (!decide (12 < (x.length : Int)) && z))))) = (q1 && (q2 && (q3 && (q4 && (!q5 && z))))) := by
    rintro _ _ _ _ _ _ rfl rfl rfl rfl rfl; rfl
  rw [hhd true true true true false _ (by assumption) (by assumption) (by assumption) (by assumption) (by assumption)]
  simp only [decide_true, decide_false, Bool.true_or, Bool.or_true, Bool.false_or, Bool.or_false, Bool.not_true, Bool.not_false, Bool.true_and, Bool.and_true, Bool.false_and, Bool.and_false, Bool.and_self, Bool.or_self, Bool.not_not]
  clear hhd
  refine wpc_loop {j : Nat // j ≤ x.length ∧ (x.take j).all msgB = true} (fun j => ⟨[(1, .int .i64 k), (2, .cp 0 0 0), (5, .cp 1 0 0), (6, .int .i64 j.1)], [(1, ⟨5, [wayS (a.plan.way k)], [], true⟩), (0, ⟨14, [oneS a], [], true⟩)], 2⟩) (fun j => x.length - j.1) ⟨0, Nat.zero_le _, rfl⟩ (Le.of [] (Nat.zero_le _) ?_ ?_ ?_) ?_
  · simp only [eL, eH, eG, leO, Nat.beq, Nat.reduceLT]
  · simp only [oneS, wayS, eL, eH, eG, leO, Nat.beq, Nat.reduceLT]; first | done | rfl | simp | omega
  · simp only [oneS, wayS, eL, eH, eG, leO, Nat.beq, Nat.reduceLT]
  · rintro ⟨j, hj, hjp⟩
    by_cases hjt : j < x.length
    · have hjf : decide ((j : Int) < x.length) = true := decide_eq_true (by omega)
      have hr2 : ∀ d, (x.map msgS).getD j d = msgS (x.getD j []) := fun d => getIn msgS x j d [] hjt
      have hja := take_all msgB x j [] hjt
      have hjb := all_bad msgB x j [] hjt
      have ex := mb (x.getD j [])
      simp only [msgS] at hr2
      simp only [hT, hjf, hr2, hr5, oneS, wayS, Int.toNat_natCast, ↓If_lit, eA, Nat.beq, List.toArray, Nat.reduceAdd, Nat.reduceLT, Nat.reduceLeDiff, Int.reduceToNat]
      repeat' first | (with_reducible refine And.intro ?_ ?_) | omega | intro _
      refine Fun.plain ex rfl rfl rfl rfl ?_
      simp only [hT, ↓If_lit, eA, Nat.beq, List.toArray, Nat.reduceAdd, Nat.reduceLT, Nat.reduceLeDiff, Int.reduceToNat]
      refine If.mk (fun q2 => by simp only [Bool.not_eq_true'] at q2; rw [hjb q2, Bool.false_and]) (fun q2 => ?_)
      simp only [Bool.not_eq_false'] at q2
      refine ⟨show In64 _ from ⟨by omega, by omega⟩, ⟨j + 1, hjt, by rw [hja, hjp, q2]; rfl⟩, by simp only; omega, Le.of [] (Nat.zero_le _) ?_ ?_ ?_⟩
      · simp only [eL, eH, eG, leO, Nat.beq, Nat.reduceLT]
      · simp only [oneS, wayS, eL, eH, eG, leO, Nat.beq, Nat.reduceLT]; first | done | rfl | simp | omega
      · simp only [oneS, wayS, eL, eH, eG, leO, Nat.beq, Nat.reduceLT]
    · obtain rfl : j = x.length := by omega
      have hjf : decide ((x.length : Int) < x.length) = false := decide_eq_false (by omega)
      rw [List.take_length] at hjp
      rw [hjp, Bool.true_and]
      clear hjp
      simp only [hT, hjf, hr5, oneS, wayS, Int.toNat_natCast, ↓If_lit, eA, Nat.beq, List.toArray, Nat.reduceAdd, Nat.reduceLT, Nat.reduceLeDiff, Int.reduceToNat]
      repeat' first | (with_reducible refine And.intro ?_ ?_) | omega | intro _
      refine wpc_read [0, 1, 2, 3, 4, 5, 6, 7, 8, 9, 10, 11, 12, 13, 14, 15, 16, 17, 18, 19, 20, 21, 22, 23, 24, 25, 26, 27, 28, 29, 30, 31, 32, 33, 34, 35, 36, 37, 38, 39, 40, 41, 42, 43, 44, 45, 46] hm (by kernel_rfl) ?_
      simp only [hT, hr3, hr4, hr6, hr7, hr8, hr9, Int.toNat_natCast, ↓If_lit, eT, ↓If_lit, Nat.reduceSub, reduceCtorEq, eA, Nat.beq, List.toArray, Nat.reduceAdd, Nat.reduceLT, Nat.reduceLeDiff, Int.reduceToNat]
      all_goals repeat' first
        | (refine If.mk (fun q => ?_) (fun q => ?_))
        | (show In64 _; exact ⟨by omega, by omega⟩)
        | (with_reducible refine And.intro ?_ ?_)
        | omega
        | exact hob
        | exact hib
        | (intro _)
      all_goals (clear eo ei hr1 hr3 hr4 hr5 hr6 hr7 hr8 hr9 hT hm mb ha hk lo li la w1 w2 hb he hwl hbo hbi hba hob hib hair f1 f2 t1 t2 hb1 hb2 he1 he2; (try simp only [Bool.not_eq_true', Bool.not_eq_false'] at *); simp only [*, decide_true, decide_false, Bool.true_or, Bool.or_true, Bool.false_or, Bool.or_false, Bool.not_true, Bool.not_false, Bool.true_and, Bool.and_true, Bool.false_and, Bool.and_false, Bool.and_self, Bool.or_self, Bool.not_not]; done)
end Go.Proofs.YtjlmfcddbcoimaaGreat.C
