/- The checks of a plan, by the program's text: turns and programs. -/
import Derived.Test.YtjlmfcddbcoimaaGreatCPlnC
set_option maxRecDepth 100000
set_option linter.unusedSimpArgs false
set_option linter.unusedVariables false
namespace Go.Proofs.YtjlmfcddbcoimaaGreat.C
open Go Go.Av Go.Proofs
open Nat (reduceAdd reduceLT reduceLeDiff reduceSub)
open Int (reduceToNat)
theorem TY_turnsC {P : Program} (hP : P = Tryz.prog) : ((((P.follows .mixedOrders = true) ∧ (fldT P 268 0 = some ((0, (false, 1))))) ∧ ((tyT P 105 = some ((false, 1))) ∧ (fldT P 43 6 = some ((6, (false, 1)))))) ∧ (((tyT P 25 = some ((false, 1))) ∧ (elT P 25 = some ((false, (1, 24))))) ∧ ((tyT P 33 = some ((false, 1))) ∧ ((lkT P 33 = 1) ∧ (fldT P 43 5 = some ((5, (false, 1)))))))) ∧ ((((tyT P 41 = some ((false, 1))) ∧ (lkT P 41 = 1)) ∧ ((elT P 33 = some ((false, (1, 8)))) ∧ (tyT P 3 = some ((false, 1))))) ∧ (((fldT P 43 3 = some ((3, (false, 1)))) ∧ (tyT P 39 = some ((false, 1)))) ∧ ((lkT P 39 = 1) ∧ ((elT P 39 = some ((true, (5, 56)))) ∧ (fldT P 156 0 = some ((0, (false, 1)))))))) := by subst hP; refine ⟨⟨⟨⟨?_, ?_⟩, ⟨?_, ?_⟩⟩, ⟨⟨?_, ?_⟩, ⟨?_, ⟨?_, ?_⟩⟩⟩⟩, ⟨⟨⟨?_, ?_⟩, ⟨?_, ?_⟩⟩, ⟨⟨?_, ?_⟩, ⟨?_, ⟨?_, ?_⟩⟩⟩⟩⟩ <;> kernel_rfl
theorem turnsC {P : Program} [Known P] (hP : P = Tryz.prog) (p : VPln) (k : Nat) (hk : k < p.turns.length) (hsz : Sz p) : Fun P 299 [.int .i64 k, PV p] (.bool (bad13 p k)) := by
  refine fun_of (fn := Tryz.f299) (hP ▸ Tryz.func299) (by kernel_rfl) (by kernel_rfl) (by kernel_rfl) (by kernel_rfl) ?_
  have hT := TY_turnsC hP
  have hm : P.follows .mixedOrders = true := by subst hP; kernel_rfl
  have ha := @plnHas P _ hP
  clear hP
  intro hl
  clear hl
  have hg : ∀ d, (p.turns.map turnS).getD k d = turnS (p.turn k) := fun d => getIn turnS p.turns k d [] hk
  have l1 := hsz.ts k hk
  have l2 := hsz.s
  have l3 := hsz.c
  unfold bad13
  simp only [PV, plnS, Tryz.f299, hT, eA, Nat.beq, List.toArray, reduceAdd, reduceLT, reduceLeDiff, reduceToNat]
  refine wpc_read [0, 1, 2, 3, 4, 5, 6, 7, 8, 9, 10, 11, 12, 13, 14, 15] hm (by kernel_rfl) ?_
  simp only [hT, hg, turnS, eT, ↓If_lit, reduceSub, reduceCtorEq, eA, Nat.beq, List.toArray, reduceAdd, reduceLT, reduceLeDiff, reduceToNat]
  clear hsz
  change (p.turn k).length ≤ _ at l1
  unfold turnBad
  generalize p.turn k = t at *
  (try unfold lim); repeat first | ((with_reducible refine And.intro ?_ ?_); (first | omega | exact ⟨by omega, by omega⟩ | rfl)) | intro _
  refine ⟨fun q => by rw [q]; rfl, fun q => ?_⟩
  rw [q]
  (try unfold lim); repeat first | ((with_reducible refine And.intro ?_ ?_); (first | omega | exact ⟨by omega, by omega⟩ | rfl)) | intro _
  refine wpc_loop {i : Nat // i ≤ t.length ∧ ∀ j, j < i → turnBad p k (t.getD j 0) = false} (fun i => ⟨[(0, .int .i64 k), (1, .rp [.rp (plnS p)]), (29, intsS t), (30, .int .i64 t.length), (31, .int .i64 i.1)], [], 0⟩) (fun i => t.length - i.1) ⟨0, Nat.zero_le _, fun j hj => absurd hj (by omega)⟩ (Le.of [] (Nat.zero_le _) ?_ ?_ ?_) ?_
  · simp only [eL, eH, eG, leO, Nat.beq, reduceLT]
  · simp only [plnS, eL, eH, eG, leO, Nat.beq, reduceLT] <;> rfl
  · simp only [eL, eH, eG, leO, Nat.beq, reduceLT]
  · rintro ⟨i, hi, hp⟩
    simp only [plnS, hT, eA, Nat.beq, List.toArray, reduceAdd, reduceLT, reduceLeDiff, reduceToNat]
    refine ⟨fun h => ?_, fun h => ?_⟩
    · simp only [decide_eq_true_eq] at h
      have hil : i < t.length := by omega
      have hg : ∀ d, (t.map intE).getD i d = intE (t.getD i 0) := fun d => getIn intE t i d 0 hil
      simp only [hT, hg, intE, eA, Nat.beq, List.toArray, reduceAdd, reduceLT, reduceLeDiff, reduceToNat]
      (try unfold lim); repeat first | ((with_reducible refine And.intro ?_ ?_); (first | omega | exact ⟨by omega, by omega⟩ | rfl)) | intro _
      have yes : turnBad p k (t.getD i 0) = true → t.any (turnBad p k) = true := fun h => any_at 0 hil h
      have no : turnBad p k (t.getD i 0) = false → ∃ x' : {i : Nat // i ≤ t.length ∧ ∀ j, j < i → turnBad p k (t.getD j 0) = false}, x'.val = i + 1 := fun h => ⟨⟨i + 1, hil, upto hp h⟩, rfl⟩
      generalize t.getD i 0 = c at *
      have go : ∀ (tm : List (Nat × AV)), gtm tm 0 = .int .i64 k → gtm tm 1 = .rp [.rp (plnS p)] → gtm tm 29 = intsS t → gtm tm 30 = .int .i64 t.length → gtm tm 31 = .int .i64 ((i : Int) + 1) → turnBad p k c = false → ∃ x' : {i : Nat // i ≤ t.length ∧ ∀ j, j < i → turnBad p k (t.getD j 0) = false}, t.length - x'.val < t.length - i ∧ Le P 0 ⟨tm, [], 0⟩ ⟨[(0, .int .i64 k), (1, .rp [.rp (plnS p)]), (29, intsS t), (30, .int .i64 t.length), (31, .int .i64 x'.1)], [], 0⟩ := by
        intro tm e0 e1 e2 e3 e4 hb
        obtain ⟨x', hx⟩ := no hb
        refine ⟨x', by omega, Le.of [] (Nat.zero_le _) ?_ ?_ ?_⟩
        · simp only [eL, eH, eG, leO, Nat.beq, reduceLT]
        · simp only [e0, e1, e2, e3, e4, eL, eH, eG, leO, Nat.beq, reduceLT]
          omega
        · simp only [eL, eH, eG, leO, Nat.beq, reduceLT]
      simp only [plnS] at go
      unfold turnBad at yes go
      refine ⟨fun q1 => ?_, fun q1 => ?_⟩
      · (try unfold lim); repeat first | ((with_reducible refine And.intro ?_ ?_); (first | omega | exact ⟨by omega, by omega⟩ | rfl)) | intro _
        refine Fun.plain (ha c p.cells.length) rfl rfl rfl rfl ?_; simp only [hT, eN, ↓If_lit, Int.reduceLT, Int.reduceLE, eA, Nat.beq, List.toArray, reduceAdd, reduceLT, reduceLeDiff, reduceToNat]; (try unfold lim); repeat first | ((with_reducible refine And.intro ?_ ?_); (first | omega | exact ⟨by omega, by omega⟩ | rfl)) | intro _
        refine ⟨fun q2 => ?_, fun q2 => ?_⟩
        · rw [yes (by rw [q1, q2]; rfl)]
        · have q3 : has c p.cells.length = true := by simpa using q2
          obtain ⟨b0, b1⟩ := has_iff q3
          have g1 : ∀ d, (p.cells.map cellS).getD c.toNat d = cellS (p.cell c.toNat) := fun d => getIn cellS p.cells _ d c0 (by omega)
          simp only [hT, g1, cellS, eA, Nat.beq, List.toArray, reduceAdd, reduceLT, reduceLeDiff, reduceToNat]
          (try unfold lim); repeat first | ((with_reducible refine And.intro ?_ ?_); (first | omega | exact ⟨by omega, by omega⟩ | rfl)) | intro _
          refine ⟨fun q4 => ?_, fun q4 => ?_⟩
          · rw [yes (by rw [q1, q2, q4]; rfl)]
          · exact ⟨⟨by omega, by omega⟩, go _ rfl rfl rfl rfl rfl (by rw [q1, q2, q4]; rfl)⟩
      · exact ⟨⟨by omega, by omega⟩, go _ rfl rfl rfl rfl rfl (by rw [q1]; rfl)⟩
    · simp only [decide_eq_false_iff_not] at h
      obtain rfl : i = t.length := by omega
      exact (any_none 0 hp).symm
theorem TY_cellTurnsC {P : Program} (hP : P = Tryz.prog) : (((P.follows .mixedOrders = true) ∧ ((fldT P 268 0 = some ((0, (false, 1)))) ∧ (tyT P 105 = some ((false, 1))))) ∧ (((fldT P 43 6 = some ((6, (false, 1)))) ∧ (tyT P 25 = some ((false, 1)))) ∧ ((fldT P 43 3 = some ((3, (false, 1)))) ∧ (tyT P 39 = some ((false, 1)))))) ∧ (((elT P 39 = some ((true, (5, 56)))) ∧ ((fldT P 156 0 = some ((0, (false, 1)))) ∧ (tyT P 3 = some ((false, 1))))) ∧ (((elT P 25 = some ((false, (1, 24)))) ∧ (tyT P 33 = some ((false, 1)))) ∧ ((lkT P 33 = 1) ∧ (elT P 33 = some ((false, (1, 8))))))) := by subst hP; refine ⟨⟨⟨?_, ⟨?_, ?_⟩⟩, ⟨⟨?_, ?_⟩, ⟨?_, ?_⟩⟩⟩, ⟨⟨?_, ⟨?_, ?_⟩⟩, ⟨⟨?_, ?_⟩, ⟨?_, ?_⟩⟩⟩⟩ <;> kernel_rfl
theorem cellTurnsC {P : Program} [Known P] (hP : P = Tryz.prog) (p : VPln) (k : Nat) (hk : k < p.cells.length) (hsz : Sz p) (ht : has (p.cell k).1 p.turns.length = true) : Fun P 300 [.int .i64 k, PV p] (.bool (bad14 p k)) := by
  refine fun_of (fn := Tryz.f300) (hP ▸ Tryz.func300) (by kernel_rfl) (by kernel_rfl) (by kernel_rfl) (by kernel_rfl) ?_
  have hT := TY_cellTurnsC hP
  have hm : P.follows .mixedOrders = true := by subst hP; kernel_rfl
  clear hP
  intro hl
  clear hl
  obtain ⟨b0, b1⟩ := has_iff ht
  have hg : ∀ d, (p.cells.map cellS).getD k d = cellS (p.cell k) := fun d => getIn cellS p.cells k d c0 hk
  have hg2 : ∀ d, (p.turns.map turnS).getD (p.cell k).1.toNat d = turnS (p.turn (p.cell k).1.toNat) := fun d => getIn turnS p.turns _ d [] (by omega)
  have l1 := hsz.ts (p.cell k).1.toNat (by omega)
  unfold bad14
  simp only [PV, plnS, Tryz.f300, hT, eA, Nat.beq, List.toArray, reduceAdd, reduceLT, reduceLeDiff, reduceToNat]
  refine wpc_read [0, 1, 2, 3, 4, 5, 6, 7, 8, 9, 10, 11, 12, 13, 14, 15, 16, 17] hm (by kernel_rfl) ?_
  simp only [hT, hg, cellS, hg2, turnS, eT, ↓If_lit, reduceSub, reduceCtorEq, eA, Nat.beq, List.toArray, reduceAdd, reduceLT, reduceLeDiff, reduceToNat]
  clear hsz
  change (p.turn _).length ≤ _ at l1
  generalize p.turn (p.cell k).1.toNat = t at *
  (try unfold lim); repeat first | ((with_reducible refine And.intro ?_ ?_); (first | omega | exact ⟨by omega, by omega⟩ | rfl)) | intro _
  refine wpc_loop {i : Nat // i ≤ t.length ∧ ∀ j, j < i → isK k (t.getD j 0) = false} (fun i => ⟨[(0, .int .i64 k), (21, intsS t), (22, .int .i64 t.length), (23, .int .i64 i.1)], [], 0⟩) (fun i => t.length - i.1) ⟨0, Nat.zero_le _, fun j hj => absurd hj (by omega)⟩ (Le.of [] (Nat.zero_le _) ?_ ?_ ?_) ?_
  · simp only [eL, eH, eG, leO, Nat.beq, reduceLT]
  · simp only [eL, eH, eG, leO, Nat.beq, reduceLT] <;> rfl
  · simp only [eL, eH, eG, leO, Nat.beq, reduceLT]
  · rintro ⟨i, hi, hp⟩
    simp only [hT, eA, Nat.beq, List.toArray, reduceAdd, reduceLT, reduceLeDiff, reduceToNat]
    refine ⟨fun h => ?_, fun h => ?_⟩
    · simp only [decide_eq_true_eq] at h
      have hil : i < t.length := by omega
      have hg : ∀ d, (t.map intE).getD i d = intE (t.getD i 0) := fun d => getIn intE t i d 0 hil
      simp only [hT, hg, intE, eA, Nat.beq, List.toArray, reduceAdd, reduceLT, reduceLeDiff, reduceToNat]
      (try unfold lim); repeat first | ((with_reducible refine And.intro ?_ ?_); (first | omega | exact ⟨by omega, by omega⟩ | rfl)) | intro _
      refine ⟨fun q => ?_, fun q => ⟨⟨by omega, by omega⟩, ⟨i + 1, hil, upto hp q⟩, by simp only; omega, Le.of [] (Nat.zero_le _) ?_ ?_ ?_⟩⟩
      · rw [any_at 0 hil q]; rfl
      all_goals simp only [eL, eH, eG, leO, Nat.beq, reduceLT] <;> omega
    · simp only [decide_eq_false_iff_not] at h
      obtain rfl : i = t.length := by omega
      rw [any_none 0 hp]; rfl
theorem TY_programsC {P : Program} (hP : P = Tryz.prog) : ((((P.follows .mixedOrders = true) ∧ (fldT P 268 0 = some ((0, (false, 1))))) ∧ ((tyT P 105 = some ((false, 1))) ∧ ((fldT P 43 3 = some ((3, (false, 1)))) ∧ (tyT P 39 = some ((false, 1)))))) ∧ (((elT P 39 = some ((true, (5, 56)))) ∧ ((fldT P 156 3 = some ((4, (false, 1)))) ∧ (tyT P 154 = some ((false, 1))))) ∧ ((lkT P 154 = 1) ∧ ((elT P 154 = some ((true, (4, 32)))) ∧ (tyT P 274 = some ((true, 4))))))) ∧ ((((zeroT P 274 = some (((.int .i64 0) :: ((.int .i64 0) :: ((.int .i64 0) :: ((.int .i64 0) :: [])))))) ∧ ((fldT P 274 0 = some ((0, (false, 1)))) ∧ (tyT P 3 = some ((false, 1))))) ∧ ((fldT P 274 1 = some ((1, (false, 1)))) ∧ ((fldT P 43 4 = some ((4, (false, 1)))) ∧ (tyT P 40 = some ((false, 1)))))) ∧ (((lkT P 40 = 1) ∧ ((elT P 40 = some ((true, (5, 56)))) ∧ (tyT P 160 = some ((true, 5))))) ∧ ((zeroT P 160 = some (((.int .i64 0) :: ((.int .i64 0) :: ((.int .i64 0) :: ((.bool false) :: (.nils :: []))))))) ∧ ((fldT P 160 0 = some ((0, (false, 1)))) ∧ (fldT P 160 1 = some ((1, (false, 1)))))))) := by subst hP; refine ⟨⟨⟨⟨?_, ?_⟩, ⟨?_, ⟨?_, ?_⟩⟩⟩, ⟨⟨?_, ⟨?_, ?_⟩⟩, ⟨?_, ⟨?_, ?_⟩⟩⟩⟩, ⟨⟨⟨?_, ⟨?_, ?_⟩⟩, ⟨?_, ⟨?_, ?_⟩⟩⟩, ⟨⟨?_, ⟨?_, ?_⟩⟩, ⟨?_, ⟨?_, ?_⟩⟩⟩⟩⟩ <;> kernel_rfl
theorem programsC {P : Program} [Known P] (hP : P = Tryz.prog) (p : VPln) (k : Nat) (hk : k < p.cells.length) (hsz : Sz p) : Fun P 301 [.int .i64 k, PV p] (.bool (bad15 p k)) := by
  refine fun_of (fn := Tryz.f301) (hP ▸ Tryz.func301) (by kernel_rfl) (by kernel_rfl) (by kernel_rfl) (by kernel_rfl) ?_
  have hT := TY_programsC hP
  have hm : P.follows .mixedOrders = true := by subst hP; kernel_rfl
  have ha := @plnHas P _ hP
  clear hP
  intro hl
  clear hl
  have hg : ∀ d, (p.cells.map cellS).getD k d = cellS (p.cell k) := fun d => getIn cellS p.cells k d c0 hk
  have l1 := hsz.cs k hk
  have l3 := hsz.w
  clear hsz
  change (p.cell k).2.2.2.1.length ≤ _ at l1
  unfold bad15
  simp only [PV, plnS, hg, cellS, Tryz.f301, hT, eA, Nat.beq, List.toArray, reduceAdd, reduceLT, reduceLeDiff, reduceToNat]
  clear hg
  generalize (p.cell k).2.2.2.1 = t at *
  (try unfold lim); repeat first | ((with_reducible refine And.intro ?_ ?_); (first | omega | exact ⟨by omega, by omega⟩ | rfl)) | intro _
  refine wpc_loop {i : Nat // i ≤ t.length ∧ ∀ j, j < i → ordBad p k (t.getD j o0) = false} (fun i => ⟨[(0, .int .i64 k), (1, .rp [.rp (plnS p)]), (15, codeS t), (16, .int .i64 t.length), (17, .int .i64 i.1)], [], 0⟩) (fun i => t.length - i.1) ⟨0, Nat.zero_le _, fun j hj => absurd hj (by omega)⟩ (Le.of [] (Nat.zero_le _) ?_ ?_ ?_) ?_
  · simp only [eL, eH, eG, leO, Nat.beq, reduceLT]
  · simp only [plnS, eL, eH, eG, leO, Nat.beq, reduceLT] <;> rfl
  · simp only [eL, eH, eG, leO, Nat.beq, reduceLT]
  · rintro ⟨i, hi, hp⟩
    simp only [plnS, hT, eA, Nat.beq, List.toArray, reduceAdd, reduceLT, reduceLeDiff, reduceToNat]
    refine ⟨fun h => ?_, fun h => ?_⟩
    · simp only [decide_eq_true_eq] at h
      have hil : i < t.length := by omega
      have hg : ∀ d, (t.map ordE).getD i d = ordE (t.getD i o0) := fun d => getIn ordE t i d o0 hil
      simp only [hT, hg, ordE, eA, Nat.beq, List.toArray, reduceAdd, reduceLT, reduceLeDiff, reduceToNat]
      (try unfold lim); repeat first | ((with_reducible refine And.intro ?_ ?_); (first | omega | exact ⟨by omega, by omega⟩ | rfl)) | intro _
      have yes : ordBad p k (t.getD i o0) = true → t.any (ordBad p k) = true := fun h => any_at o0 hil h
      have no : ordBad p k (t.getD i o0) = false → ∃ x' : {i : Nat // i ≤ t.length ∧ ∀ j, j < i → ordBad p k (t.getD j o0) = false}, x'.val = i + 1 := fun h => ⟨⟨i + 1, hil, upto hp h⟩, rfl⟩
      clear hg
      generalize t.getD i o0 = o at *
      have go : ∀ (tm : List (Nat × AV)) (hp : Hp) (n : Nat), gtm tm 0 = .int .i64 k → gtm tm 1 = .rp [.rp (plnS p)] → gtm tm 15 = codeS t → gtm tm 16 = .int .i64 t.length → gtm tm 17 = .int .i64 ((i : Int) + 1) → ordBad p k o = false → ∃ x' : {i : Nat // i ≤ t.length ∧ ∀ j, j < i → ordBad p k (t.getD j o0) = false}, t.length - x'.val < t.length - i ∧ Le P 0 ⟨tm, hp, n⟩ ⟨[(0, .int .i64 k), (1, .rp [.rp (plnS p)]), (15, codeS t), (16, .int .i64 t.length), (17, .int .i64 x'.1)], [], 0⟩ := by
        intro tm _ _ e0 e1 e2 e3 e4 hb
        obtain ⟨x', hx⟩ := no hb
        refine ⟨x', by omega, Le.of [] (Nat.zero_le _) ?_ ?_ ?_⟩
        · simp only [eL, eH, eG, leO, Nat.beq, reduceLT]
        · simp only [e0, e1, e2, e3, e4, eL, eH, eG, leO, Nat.beq, reduceLT]
          omega
        · simp only [eL, eH, eG, leO, Nat.beq, reduceLT]
      simp only [plnS] at go
      refine ⟨fun q1 => ⟨fun q2 => ?_, fun q2 => ?_⟩, fun q1 => ?_⟩
      · simp only [Bool.not_eq_true', decide_eq_false_iff_not] at q1 q2
        exact ⟨⟨by omega, by omega⟩, go _ _ _ rfl rfl rfl rfl rfl (by unfold ordBad; simp [q1, q2])⟩
      · have e9 : decide (o.1 = 9) = false := by simpa using q1
        have e10 : decide (o.1 = 10) = true := by simpa using q2
        refine wpc_read [0, 1, 2, 3, 4, 5, 6, 7, 8, 9] hm (by kernel_rfl) ?_
        simp only [hT, eT, ↓If_lit, reduceSub, reduceCtorEq, eA, Nat.beq, List.toArray, reduceAdd, reduceLT, reduceLeDiff, reduceToNat]
        (try unfold lim); repeat first | ((with_reducible refine And.intro ?_ ?_); (first | omega | exact ⟨by omega, by omega⟩ | rfl)) | intro _
        refine Fun.pcall (ha o.2.1 p.ways.length) (by exact rfl) rfl rfl rfl rfl ?_; simp only [hT, nneg, decide_true, decide_false, ↓If_lit, Int.cast_ofNat_Int, Int.reduceLT, Int.reduceLE, eT, ↓If_lit, reduceSub, reduceCtorEq, eA, Nat.beq, List.toArray, reduceAdd, reduceLT, reduceLeDiff, reduceToNat]; (try unfold lim); repeat first | ((with_reducible refine And.intro ?_ ?_); (first | omega | exact ⟨by omega, by omega⟩ | rfl)) | intro _
        refine ⟨fun q3 => ?_, fun q3 => ?_⟩
        · exact (yes (by unfold ordBad; rw [e9, e10, q3]; rfl)).symm
        · have q4 : has o.2.1 p.ways.length = true := by simpa using q3
          obtain ⟨b0, b1⟩ := has_iff q4
          have g1 : ∀ d, (p.ways.map wayS).getD o.2.1.toNat d = wayS (p.way o.2.1.toNat) := fun d => getIn wayS p.ways _ d w0 (by omega)
          refine wpc_draw (.take 0 <| .take 1 <| .take 2 <| .take 3 <| .take 4 <| .take 5 <| .alt 6 (.take 7 <| .take 8 <| .alt 9 (.alt 10 .done .stop) .stop) (.alt 9 (.alt 6 (.take 7 <| .take 8 <| .alt 10 .done .stop) .stop) .stop)) hm (by kernel_rfl) ?_
          simp only [hT, g1, wayS, e9, e10, If_lit, eT, ↓If_lit, PCall, reduceSub, reduceCtorEq, eA, Nat.beq, List.toArray, reduceAdd, reduceLT, reduceLeDiff, reduceToNat]
          constructor
          all_goals
            (try unfold lim); repeat first | ((with_reducible refine And.intro ?_ ?_); (first | omega | exact ⟨by omega, by omega⟩ | rfl)) | intro _
            refine ⟨fun q5 => ?_, fun q5 => ?_⟩
            · exact (yes (by unfold ordBad; rw [e9, e10, q3, q5]; rfl)).symm
            · exact ⟨⟨by omega, by omega⟩, go _ _ _ rfl rfl rfl rfl rfl (by unfold ordBad; rw [e9, e10, q3, q5]; rfl)⟩
      · have e9 : decide (o.1 = 9) = true := by simpa using q1
        have e10 : decide (o.1 = 10) = false := by (have : o.1 = 9 := by simpa using q1); rw [this]; rfl
        refine wpc_read [0, 1, 2, 3, 4, 5, 6, 7, 8, 9] hm (by kernel_rfl) ?_
        simp only [hT, eT, ↓If_lit, reduceSub, reduceCtorEq, eA, Nat.beq, List.toArray, reduceAdd, reduceLT, reduceLeDiff, reduceToNat]
        (try unfold lim); repeat first | ((with_reducible refine And.intro ?_ ?_); (first | omega | exact ⟨by omega, by omega⟩ | rfl)) | intro _
        refine Fun.pcall (ha o.2.1 p.ways.length) (by exact rfl) rfl rfl rfl rfl ?_; simp only [hT, nneg, decide_true, decide_false, ↓If_lit, Int.cast_ofNat_Int, Int.reduceLT, Int.reduceLE, eT, ↓If_lit, reduceSub, reduceCtorEq, eA, Nat.beq, List.toArray, reduceAdd, reduceLT, reduceLeDiff, reduceToNat]; (try unfold lim); repeat first | ((with_reducible refine And.intro ?_ ?_); (first | omega | exact ⟨by omega, by omega⟩ | rfl)) | intro _
        refine ⟨fun q3 => ?_, fun q3 => ?_⟩
        · exact (yes (by unfold ordBad; rw [e9, e10, q3]; rfl)).symm
        · have q4 : has o.2.1 p.ways.length = true := by simpa using q3
          obtain ⟨b0, b1⟩ := has_iff q4
          have g1 : ∀ d, (p.ways.map wayS).getD o.2.1.toNat d = wayS (p.way o.2.1.toNat) := fun d => getIn wayS p.ways _ d w0 (by omega)
          refine wpc_draw (.take 0 <| .take 1 <| .take 2 <| .take 3 <| .take 4 <| .take 5 <| .alt 6 (.take 7 <| .take 8 <| .alt 9 (.alt 10 .done .stop) .stop) (.alt 9 (.alt 6 (.take 7 <| .take 8 <| .alt 10 .done .stop) .stop) .stop)) hm (by kernel_rfl) ?_
          simp only [hT, g1, wayS, e9, e10, If_lit, eT, ↓If_lit, PCall, reduceSub, reduceCtorEq, eA, Nat.beq, List.toArray, reduceAdd, reduceLT, reduceLeDiff, reduceToNat]
          constructor
          all_goals
            (try unfold lim); repeat first | ((with_reducible refine And.intro ?_ ?_); (first | omega | exact ⟨by omega, by omega⟩ | rfl)) | intro _
            refine ⟨fun q5 => ?_, fun q5 => ?_⟩
            · exact (yes (by unfold ordBad; rw [e9, e10, q3, q5]; rfl)).symm
            · exact ⟨⟨by omega, by omega⟩, go _ _ _ rfl rfl rfl rfl rfl (by unfold ordBad; rw [e9, e10, q3, q5]; rfl)⟩
    · simp only [decide_eq_false_iff_not] at h
      obtain rfl : i = t.length := by omega
      rw [any_none o0 hp]
end Go.Proofs.YtjlmfcddbcoimaaGreat.C
