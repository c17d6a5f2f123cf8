/- The checks of a plan, by the given text: cells, ways, slots. -/
import Derived.Test.YtjlmfcddbcoimaaGreatCPlnF
import Derived.Test.YtjlmfcddbcoimaaGreatCCodS
set_option maxRecDepth 100000
set_option linter.unusedSimpArgs false
set_option linter.unusedVariables false
namespace Go.Proofs.YtjlmfcddbcoimaaGreat.C
open Go Go.Av Go.Proofs
open Nat (reduceAdd reduceLT reduceLeDiff reduceSub)
open Int (reduceToNat)
theorem in_has (x n : Int) : (decide (0 ≤ x) && decide (x ≤ n - 1)) = has x n := by
  unfold has
  congr 1
  exact decide_eq_decide.2 (by omega)
theorem in_has1 (x n : Int) (hn : 0 ≤ n) : (decide (-1 ≤ x) && decide (x ≤ n - 1)) = (decide (x = -1) || has x n) := by
  unfold has
  by_cases h : x = -1
  · subst h; rw [decide_eq_true (by omega : (-1 : Int) ≤ n - 1)]; rfl
  · rw [decide_eq_false h, Bool.false_or]
    congr 1
    · exact decide_eq_decide.2 (by omega)
    · exact decide_eq_decide.2 (by omega)
theorem in_has2 (x a b : Int) : (!(decide (a ≤ x) && decide (x ≤ b))) = (decide (x < a) || decide (b < x)) := by
  rw [Bool.not_and]
  congr 1
  · rw [← decide_not]; exact decide_eq_decide.2 (by omega)
  · rw [← decide_not]; exact decide_eq_decide.2 (by omega)
theorem l1h {P : Program} [Known P] (hP : P = Tryz.prog) (x n : Int) : Fun P 55 [.int .i64 x, .int .i64 0, .int .i64 (n - 1)] (.bool (has x n)) := by
  rw [← in_has]; exact l1In hP x 0 (n - 1)
theorem l1h1 {P : Program} [Known P] (hP : P = Tryz.prog) (x n : Int) (hn : 0 ≤ n) : Fun P 55 [.int .i64 x, .int .i64 (-1), .int .i64 (n - 1)] (.bool (decide (x = -1) || has x n)) := by
  rw [← in_has1 x n hn]; exact l1In hP x (-1) (n - 1)
theorem TY_l9Cell {P : Program} (hP : P = Tryz.prog) : ((fldT P 156 0 = some ((0, (false, 1)))) ∧ ((tyT P 3 = some ((false, 1))) ∧ (fldT P 43 0 = some ((0, (false, 1)))))) ∧ (((fldT P 156 1 = some ((1, (true, 2)))) ∧ (tyT P 153 = some ((true, 2)))) ∧ ((fldT P 156 3 = some ((4, (false, 1)))) ∧ (tyT P 154 = some ((false, 1))))) := by subst hP; refine ⟨⟨?_, ⟨?_, ?_⟩⟩, ⟨⟨?_, ?_⟩, ⟨?_, ?_⟩⟩⟩ <;> kernel_rfl
theorem l9Cell {P : Program} [Known P] (hP : P = Tryz.prog) (p : VPln) (k n : Nat) (hn : p.1 = n) (h1 : 1 ≤ n) (h4 : n ≤ 4) : Fun P 277 [.agg (plnS p), .agg (cellS (p.cell k))] (.bool (!bad5 p k)) := by
  refine fun_of (fn := Tryz.f277) (hP ▸ Tryz.func277) (by kernel_rfl) (by kernel_rfl) (by kernel_rfl) (by kernel_rfl) ?_
  have hT := TY_l9Cell hP
  have hm : P.follows .mixedOrders = true := by subst hP; kernel_rfl
  have li := @l1h P _ hP
  have lo := @lblOkS P _ hP
  have co := @codOkS P _ hP
  clear hP
  intro hl
  clear hl
  unfold bad5
  generalize p.cell k = c at *
  simp only [plnS, hn, cellS, Tryz.f277, hT, eA, Nat.beq, List.toArray, reduceAdd, reduceLT, reduceLeDiff, reduceToNat]
  (try unfold lim)
  repeat' first
    | with_reducible refine If.mk (fun _ => ?_) (fun _ => ?_)
    | (with_reducible refine Eq.symm ?_; clear hT hm li lo co; first | (simp only [*, Bool.true_or, Bool.or_true, Bool.false_or, Bool.or_false, Bool.true_and, Bool.false_and, Bool.and_true, Bool.and_false, Bool.not_true, Bool.not_false, Bool.not_not]; done) | (simp_all; done))
    | (refine Fun.plain (li _ n) rfl rfl rfl rfl ?_; simp only [hT, eN, ↓If_lit, Int.reduceLT, Int.reduceLE, eA, Nat.beq, List.toArray, reduceAdd, reduceLT, reduceLeDiff, reduceToNat]; (try unfold lim); repeat first | ((with_reducible refine And.intro ?_ ?_); (first | omega | exact ⟨by omega, by omega⟩ | rfl)) | intro _)
    | (refine Fun.plain (lo _ _) rfl rfl rfl rfl ?_; simp only [hT, eN, ↓If_lit, Int.reduceLT, Int.reduceLE, eA, Nat.beq, List.toArray, reduceAdd, reduceLT, reduceLeDiff, reduceToNat]; (try unfold lim); repeat first | ((with_reducible refine And.intro ?_ ?_); (first | omega | exact ⟨by omega, by omega⟩ | rfl)) | intro _)
    | (refine Fun.plain (co _) rfl rfl rfl rfl ?_; simp only [hT, eN, ↓If_lit, Int.reduceLT, Int.reduceLE, eA, Nat.beq, List.toArray, reduceAdd, reduceLT, reduceLeDiff, reduceToNat]; (try unfold lim); repeat first | ((with_reducible refine And.intro ?_ ?_); (first | omega | exact ⟨by omega, by omega⟩ | rfl)) | intro _)
    | with_reducible refine And.intro (by omega) ?_
    | (refine And.intro ⟨by omega, by omega⟩ ?_)
    | intro _
theorem TY_l9Way {P : Program} (hP : P = Tryz.prog) : (((fldT P 160 0 = some ((0, (false, 1)))) ∧ ((tyT P 3 = some ((false, 1))) ∧ (fldT P 43 3 = some ((3, (false, 1)))))) ∧ ((tyT P 39 = some ((false, 1))) ∧ ((lkT P 39 = 1) ∧ (fldT P 160 1 = some ((1, (false, 1))))))) ∧ (((fldT P 160 2 = some ((2, (false, 1)))) ∧ ((fldT P 160 4 = some ((4, (false, 1)))) ∧ (tyT P 158 = some ((false, 1))))) ∧ ((fldT P 160 3 = some ((3, (false, 1)))) ∧ ((tyT P 4 = some ((false, 1))) ∧ (lkT P 158 = 1)))) := by subst hP; refine ⟨⟨⟨?_, ⟨?_, ?_⟩⟩, ⟨?_, ⟨?_, ?_⟩⟩⟩, ⟨⟨?_, ⟨?_, ?_⟩⟩, ⟨?_, ⟨?_, ?_⟩⟩⟩⟩ <;> kernel_rfl
theorem l9Way {P : Program} [Known P] (hP : P = Tryz.prog) (p : VPln) (k : Nat) (hc : p.cells.length ≤ 1048576) (hgl : (p.way k).2.2.2.2.1.length ≤ 1048576) : Fun P 278 [.agg (plnS p), .agg (wayS (p.way k))] (.bool (!bad7 p k)) := by
  refine fun_of (fn := Tryz.f278) (hP ▸ Tryz.func278) (by kernel_rfl) (by kernel_rfl) (by kernel_rfl) (by kernel_rfl) ?_
  have hT := TY_l9Way hP
  have hm : P.follows .mixedOrders = true := by subst hP; kernel_rfl
  have li := @l1h P _ hP
  have l1 := @l1In P _ hP
  have go := @grdOkS P _ hP
  clear hP
  intro hl
  clear hl
  have e7 : (!bad7 p k) = (has (p.way k).1 p.cells.length && (has (p.way k).2.1 p.cells.length && (!decide ((p.way k).1 = (p.way k).2.1) && ((decide (1 ≤ (p.way k).2.2.1) && decide ((p.way k).2.2.1 ≤ 4)) && (grdOk (p.way k).2.2.2.2.1 && ((p.way k).2.2.2.1 || decide (((p.way k).2.2.2.2.1.length : Int) = 0))))))) := by
    have e := in_has2 (p.way k).2.2.1 1 4
    have e0 : decide (((p.way k).2.2.2.2.1.length : Int) = 0) = !decide (0 < ((p.way k).2.2.2.2.1.length : Int)) := by rw [← decide_not]; exact decide_eq_decide.2 (by omega)
    rw [e0]
    have e' : (decide (1 ≤ (p.way k).2.2.1) && decide ((p.way k).2.2.1 ≤ 4)) = !(decide ((p.way k).2.2.1 < 1) || decide (4 < (p.way k).2.2.1)) := by rw [← e, Bool.not_not]
    rw [e']
    unfold bad7
    cases has (p.way k).1 p.cells.length <;> cases has (p.way k).2.1 p.cells.length <;> cases decide ((p.way k).1 = (p.way k).2.1) <;> cases decide ((p.way k).2.2.1 < 1) <;> cases decide (4 < (p.way k).2.2.1) <;> cases grdOk (p.way k).2.2.2.2.1 <;> cases (p.way k).2.2.2.1 <;> cases decide (0 < ((p.way k).2.2.2.2.1.length : Int)) <;> rfl
  rw [e7]
  clear e7
  generalize p.way k = w at *
  simp only [plnS, wayS, Tryz.f278, hT, eA, Nat.beq, List.toArray, reduceAdd, reduceLT, reduceLeDiff, reduceToNat]
  (try unfold lim)
  repeat' first
    | with_reducible refine If.mk (fun _ => ?_) (fun _ => ?_)
    | (with_reducible refine Eq.symm ?_; clear hT hm li l1 go; first | (simp only [*, Bool.true_or, Bool.or_true, Bool.false_or, Bool.or_false, Bool.true_and, Bool.false_and, Bool.and_true, Bool.and_false, Bool.not_true, Bool.not_false, Bool.not_not]; done) | (simp_all; done))
    | (refine Fun.plain (li _ p.cells.length) rfl rfl rfl rfl ?_; simp only [hT, eN, ↓If_lit, Int.reduceLT, Int.reduceLE, eA, Nat.beq, List.toArray, reduceAdd, reduceLT, reduceLeDiff, reduceToNat]; (try unfold lim); repeat first | ((with_reducible refine And.intro ?_ ?_); (first | omega | exact ⟨by omega, by omega⟩ | rfl)) | intro _)
    | (refine Fun.plain (l1 _ 1 4) rfl rfl rfl rfl ?_; simp only [hT, eN, ↓If_lit, Int.reduceLT, Int.reduceLE, eA, Nat.beq, List.toArray, reduceAdd, reduceLT, reduceLeDiff, reduceToNat]; (try unfold lim); repeat first | ((with_reducible refine And.intro ?_ ?_); (first | omega | exact ⟨by omega, by omega⟩ | rfl)) | intro _)
    | (refine Fun.plain (go _) rfl rfl rfl rfl ?_; simp only [hT, eN, ↓If_lit, Int.reduceLT, Int.reduceLE, eA, Nat.beq, List.toArray, reduceAdd, reduceLT, reduceLeDiff, reduceToNat]; (try unfold lim); repeat first | ((with_reducible refine And.intro ?_ ?_); (first | omega | exact ⟨by omega, by omega⟩ | rfl)) | intro _)
    | with_reducible refine And.intro (by omega) ?_
    | (refine And.intro ⟨by omega, by omega⟩ ?_)
    | intro _
theorem TY_l9Cells {P : Program} (hP : P = Tryz.prog) : ((P.follows .mixedOrders = true) ∧ ((fldT P 43 3 = some ((3, (false, 1)))) ∧ (tyT P 39 = some ((false, 1))))) ∧ (((lkT P 39 = 1) ∧ (tyT P 43 = some ((true, 7)))) ∧ ((elT P 39 = some ((true, (5, 56)))) ∧ (tyT P 156 = some ((true, 5))))) := by subst hP; refine ⟨⟨?_, ⟨?_, ?_⟩⟩, ⟨⟨?_, ?_⟩, ⟨?_, ?_⟩⟩⟩ <;> kernel_rfl
theorem l9Cells {P : Program} [Known P] (hP : P = Tryz.prog) (p : VPln) (n : Nat) (hn : p.1 = n) (h1 : 1 ≤ n) (h4 : n ≤ 4) (hs : Sz p) : Fun P 223 [.agg (plnS p)] (.int .i64 (fb p.cells.length (bad5 p))) := by
  refine fun_of (fn := Tryz.f223) (hP ▸ Tryz.func223) (by kernel_rfl) (by kernel_rfl) (by kernel_rfl) (by kernel_rfl) ?_
  have hT := TY_l9Cells hP
  have hm : P.follows .mixedOrders = true := by subst hP; kernel_rfl
  have el := @l9Cell P _ hP
  clear hP
  intro hl
  clear hl
  simp only [plnS, Tryz.f223, hT, eA, Nat.beq, List.toArray, reduceAdd, reduceLT, reduceLeDiff, reduceToNat]
  refine wpc_loop {i : Nat // i ≤ p.cells.length ∧ ∀ j, j < i → bad5 p j = false} (fun i => ⟨[(1, .cp 0 0 0), (3, .int .i64 i.1)], [(0, ⟨7, [plnS p], [], true⟩)], 1⟩) (fun i => p.cells.length - i.1) ⟨0, Nat.zero_le _, fun j hj => absurd hj (by omega)⟩ (Le.of [] (Nat.zero_le _) ?_ ?_ ?_) ?_
  · simp only [eL, eH, eG, leO, Nat.beq, reduceLT]
  · simp only [eL, eH, eG, leO, Nat.beq, reduceLT] <;> rfl
  · simp only [plnS, eL, eH, eG, leO, Nat.beq, reduceLT]
  · rintro ⟨i, hi, hp⟩
    simp only [plnS, hT, eA, Nat.beq, List.toArray, reduceAdd, reduceLT, reduceLeDiff, reduceToNat]
    have hc := hs.c
    refine fun _ => ⟨fun h => ?_, fun h => ?_⟩
    · simp only [decide_eq_true_eq] at h
      have hil : i < p.cells.length := by omega
      have hg : ∀ d, (p.cells.map cellS).getD i d = cellS (p.cell i) := fun d => getIn cellS p.cells i d c0 hil
      have el := el p i n hn h1 h4
      simp only [plnS, cellS] at el
      refine wpc_read [0, 1, 2, 3, 4, 5, 6, 7] hm (by kernel_rfl) ?_
      simp only [hT, hg, cellS, eT, ↓If_lit, reduceSub, reduceCtorEq, eA, Nat.beq, List.toArray, reduceAdd, reduceLT, reduceLeDiff, reduceToNat]
      (try unfold lim); repeat first | ((with_reducible refine And.intro ?_ ?_); (first | omega | exact ⟨by omega, by omega⟩ | rfl)) | intro _
      refine Fun.pcall (el) (by exact rfl) rfl rfl rfl rfl ?_; simp only [hT, nneg, decide_true, decide_false, ↓If_lit, Int.cast_ofNat_Int, Int.reduceLT, Int.reduceLE, eT, ↓If_lit, reduceSub, reduceCtorEq, eA, Nat.beq, List.toArray, reduceAdd, reduceLT, reduceLeDiff, reduceToNat]; (try unfold lim); repeat first | ((with_reducible refine And.intro ?_ ?_); (first | omega | exact ⟨by omega, by omega⟩ | rfl)) | intro _
      refine ⟨fun q => ?_, fun q => ?_⟩
      · rw [fb_at hil (by simpa using q) hp]
      · have q : bad5 p i = false := by simpa using q
        refine ⟨⟨by omega, by omega⟩, ⟨i + 1, hil, upto hp q⟩, by simp only; omega, Le.of [] (Nat.zero_le _) ?_ ?_ ?_⟩ <;> simp only [plnS, eL, eH, eG, leO, Nat.beq, reduceLT] <;> omega
    · simp only [decide_eq_false_iff_not] at h
      obtain rfl : i = p.cells.length := by omega
      (try unfold lim); repeat first | ((with_reducible refine And.intro ?_ ?_); (first | omega | exact ⟨by omega, by omega⟩ | rfl)) | intro _
      rw [fb_none hp]
theorem TY_l9Ways {P : Program} (hP : P = Tryz.prog) : ((P.follows .mixedOrders = true) ∧ ((fldT P 43 4 = some ((4, (false, 1)))) ∧ (tyT P 40 = some ((false, 1))))) ∧ (((lkT P 40 = 1) ∧ (tyT P 43 = some ((true, 7)))) ∧ ((elT P 40 = some ((true, (5, 56)))) ∧ (tyT P 160 = some ((true, 5))))) := by subst hP; refine ⟨⟨?_, ⟨?_, ?_⟩⟩, ⟨⟨?_, ?_⟩, ⟨?_, ?_⟩⟩⟩ <;> kernel_rfl
theorem l9Ways {P : Program} [Known P] (hP : P = Tryz.prog) (p : VPln) (hs : Sz p) : Fun P 224 [.agg (plnS p)] (.int .i64 (fb p.ways.length (bad7 p))) := by
  refine fun_of (fn := Tryz.f224) (hP ▸ Tryz.func224) (by kernel_rfl) (by kernel_rfl) (by kernel_rfl) (by kernel_rfl) ?_
  have hT := TY_l9Ways hP
  have hm : P.follows .mixedOrders = true := by subst hP; kernel_rfl
  have el := @l9Way P _ hP
  clear hP
  intro hl
  clear hl
  simp only [plnS, Tryz.f224, hT, eA, Nat.beq, List.toArray, reduceAdd, reduceLT, reduceLeDiff, reduceToNat]
  refine wpc_loop {i : Nat // i ≤ p.ways.length ∧ ∀ j, j < i → bad7 p j = false} (fun i => ⟨[(1, .cp 0 0 0), (3, .int .i64 i.1)], [(0, ⟨7, [plnS p], [], true⟩)], 1⟩) (fun i => p.ways.length - i.1) ⟨0, Nat.zero_le _, fun j hj => absurd hj (by omega)⟩ (Le.of [] (Nat.zero_le _) ?_ ?_ ?_) ?_
  · simp only [eL, eH, eG, leO, Nat.beq, reduceLT]
  · simp only [eL, eH, eG, leO, Nat.beq, reduceLT] <;> rfl
  · simp only [plnS, eL, eH, eG, leO, Nat.beq, reduceLT]
  · rintro ⟨i, hi, hp⟩
    simp only [plnS, hT, eA, Nat.beq, List.toArray, reduceAdd, reduceLT, reduceLeDiff, reduceToNat]
    have hc := hs.w
    refine fun _ => ⟨fun h => ?_, fun h => ?_⟩
    · simp only [decide_eq_true_eq] at h
      have hil : i < p.ways.length := by omega
      have hg : ∀ d, (p.ways.map wayS).getD i d = wayS (p.way i) := fun d => getIn wayS p.ways i d w0 hil
      have el := el p i hs.c (hs.ws i hil)
      simp only [plnS, wayS] at el
      refine wpc_read [0, 1, 2, 3, 4, 5, 6, 7] hm (by kernel_rfl) ?_
      simp only [hT, hg, wayS, eT, ↓If_lit, reduceSub, reduceCtorEq, eA, Nat.beq, List.toArray, reduceAdd, reduceLT, reduceLeDiff, reduceToNat]
      (try unfold lim); repeat first | ((with_reducible refine And.intro ?_ ?_); (first | omega | exact ⟨by omega, by omega⟩ | rfl)) | intro _
      refine Fun.pcall (el) (by exact rfl) rfl rfl rfl rfl ?_; simp only [hT, nneg, decide_true, decide_false, ↓If_lit, Int.cast_ofNat_Int, Int.reduceLT, Int.reduceLE, eT, ↓If_lit, reduceSub, reduceCtorEq, eA, Nat.beq, List.toArray, reduceAdd, reduceLT, reduceLeDiff, reduceToNat]; (try unfold lim); repeat first | ((with_reducible refine And.intro ?_ ?_); (first | omega | exact ⟨by omega, by omega⟩ | rfl)) | intro _
      refine ⟨fun q => ?_, fun q => ?_⟩
      · rw [fb_at hil (by simpa using q) hp]
      · have q : bad7 p i = false := by simpa using q
        refine ⟨⟨by omega, by omega⟩, ⟨i + 1, hil, upto hp q⟩, by simp only; omega, Le.of [] (Nat.zero_le _) ?_ ?_ ?_⟩ <;> simp only [plnS, eL, eH, eG, leO, Nat.beq, reduceLT] <;> omega
    · simp only [decide_eq_false_iff_not] at h
      obtain rfl : i = p.ways.length := by omega
      (try unfold lim); repeat first | ((with_reducible refine And.intro ?_ ?_); (first | omega | exact ⟨by omega, by omega⟩ | rfl)) | intro _
      rw [fb_none hp]
end Go.Proofs.YtjlmfcddbcoimaaGreat.C
