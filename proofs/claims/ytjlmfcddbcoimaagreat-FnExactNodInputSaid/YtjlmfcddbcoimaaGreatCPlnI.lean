/- The checks of a plan, by the given text: turns and programs. -/
import Derived.Test.YtjlmfcddbcoimaaGreatCPlnH
set_option maxRecDepth 100000
set_option linter.unusedSimpArgs false
set_option linter.unusedVariables false
namespace Go.Proofs.YtjlmfcddbcoimaaGreat.C
open Go Go.Av Go.Proofs
open Nat (reduceAdd reduceLT reduceLeDiff reduceSub)
open Int (reduceToNat)
theorem TY_l9Turn {P : Program} (hP : P = Tryz.prog) : ((((P.follows .mixedOrders = true) ∧ (fldT P 43 6 = some ((6, (false, 1))))) ∧ ((tyT P 25 = some ((false, 1))) ∧ (elT P 25 = some ((false, (1, 24)))))) ∧ (((tyT P 33 = some ((false, 1))) ∧ (lkT P 33 = 1)) ∧ ((fldT P 43 5 = some ((5, (false, 1)))) ∧ (tyT P 41 = some ((false, 1)))))) ∧ ((((lkT P 41 = 1) ∧ (elT P 33 = some ((false, (1, 8))))) ∧ ((tyT P 3 = some ((false, 1))) ∧ (fldT P 43 3 = some ((3, (false, 1)))))) ∧ (((tyT P 39 = some ((false, 1))) ∧ (lkT P 39 = 1)) ∧ ((elT P 39 = some ((true, (5, 56)))) ∧ (fldT P 156 0 = some ((0, (false, 1))))))) := by subst hP; refine ⟨⟨⟨⟨?_, ?_⟩, ⟨?_, ?_⟩⟩, ⟨⟨?_, ?_⟩, ⟨?_, ?_⟩⟩⟩, ⟨⟨⟨?_, ?_⟩, ⟨?_, ?_⟩⟩, ⟨⟨?_, ?_⟩, ⟨?_, ?_⟩⟩⟩⟩ <;> kernel_rfl
theorem l9Turn {P : Program} [Known P] (hP : P = Tryz.prog) (p : VPln) (k : Nat) (hk : k < p.turns.length) (hs : Sz p) : Fun P 282 [.agg (plnS p), .int .i64 k] (.bool (!bad13 p k)) := by
  refine fun_of (fn := Tryz.f282) (hP ▸ Tryz.func282) (by kernel_rfl) (by kernel_rfl) (by kernel_rfl) (by kernel_rfl) ?_
  have hT := TY_l9Turn hP
  have hm : P.follows .mixedOrders = true := by subst hP; kernel_rfl
  have l1 := @l1h1 P _ hP
  clear hP
  intro hl
  clear hl
  have hg : ∀ d, (p.turns.map turnS).getD k d = turnS (p.turn k) := fun d => getIn turnS p.turns k d [] hk
  have l1' := hs.ts k hk
  have l2 := hs.s
  have l3 := hs.c
  clear hs
  have hbad : ∀ i, i < (p.turn k).length → turnBad p k ((p.turn k).getD i 0) = true → (p.turn k).any (turnBad p k) = true := fun i hi h => any_at 0 hi h
  have hgood : (∀ j, j < (p.turn k).length → turnBad p k ((p.turn k).getD j 0) = false) → (p.turn k).any (turnBad p k) = false := fun h => any_none 0 h
  unfold bad13
  simp only [plnS, Tryz.f282, hT, eA, Nat.beq, List.toArray, reduceAdd, reduceLT, reduceLeDiff, reduceToNat]
  refine wpc_read [0, 1, 2, 3, 4, 5, 6, 7, 8, 9] hm (by kernel_rfl) ?_
  simp only [hT, hg, turnS, eT, ↓If_lit, reduceSub, reduceCtorEq, eA, Nat.beq, List.toArray, reduceAdd, reduceLT, reduceLeDiff, reduceToNat]
  change (p.turn k).length ≤ _ at l1'
  (try unfold lim); repeat first | ((with_reducible refine And.intro ?_ ?_); (first | omega | exact ⟨by omega, by omega⟩ | rfl)) | intro _
  refine ⟨fun q => by rw [q]; rfl, fun q => ?_⟩
  rw [q]
  refine wpc_loop {i : Nat // i ≤ (p.turn k).length ∧ ∀ j, j < i → turnBad p k ((p.turn k).getD j 0) = false} (fun i => ⟨[(1, .int .i64 k), (2, .cp 0 0 0), (5, .int .i64 i.1)], [(0, ⟨7, [plnS p], [], true⟩)], 1⟩) (fun i => (p.turn k).length - i.1) ⟨0, Nat.zero_le _, fun j hj => absurd hj (by omega)⟩ (Le.of [] (Nat.zero_le _) ?_ ?_ ?_) ?_
  · simp only [eL, eH, eG, leO, Nat.beq, reduceLT]
  · simp only [eL, eH, eG, leO, Nat.beq, reduceLT] <;> rfl
  · simp only [plnS, eL, eH, eG, leO, Nat.beq, reduceLT]
  · rintro ⟨i, hi, hp⟩
    simp only [plnS, hg, turnS, hT, eA, Nat.beq, List.toArray, reduceAdd, reduceLT, reduceLeDiff, reduceToNat]
    (try unfold lim); repeat first | ((with_reducible refine And.intro ?_ ?_); (first | omega | exact ⟨by omega, by omega⟩ | rfl)) | intro _
    refine ⟨fun h => ?_, fun h => ?_⟩
    · simp only [decide_eq_true_eq] at h
      have hil : i < (p.turn k).length := by omega
      have hgi : ∀ d, ((p.turn k).map intE).getD i d = intE ((p.turn k).getD i 0) := fun d => getIn intE (p.turn k) i d 0 hil
      simp only [hT, hg, turnS, hgi, intE, eA, Nat.beq, List.toArray, reduceAdd, reduceLT, reduceLeDiff, reduceToNat]
      (try unfold lim); repeat first | ((with_reducible refine And.intro ?_ ?_); (first | omega | exact ⟨by omega, by omega⟩ | rfl)) | intro _
      have yes := hbad i hil
      have go : ∀ (tm : List (Nat × AV)), gtm tm 1 = .int .i64 k → gtm tm 2 = .cp 0 0 0 → gtm tm 5 = .int .i64 ((i : Int) + 1) → turnBad p k ((p.turn k).getD i 0) = false → ∃ x' : {i : Nat // i ≤ (p.turn k).length ∧ ∀ j, j < i → turnBad p k ((p.turn k).getD j 0) = false}, (p.turn k).length - x'.val < (p.turn k).length - i ∧ Le P 0 ⟨tm, [(0, ⟨7, [plnS p], [], true⟩)], 1⟩ ⟨[(1, .int .i64 k), (2, .cp 0 0 0), (5, .int .i64 x'.1)], [(0, ⟨7, [plnS p], [], true⟩)], 1⟩ := by
        intro tm e1 e2 e5 q
        refine ⟨⟨i + 1, hil, upto hp q⟩, by simp only; omega, Le.of [] (Nat.zero_le _) ?_ ?_ ?_⟩
        · simp only [eL, eH, eG, leO, Nat.beq, reduceLT]
        · simp only [e1, e2, e5, eL, eH, eG, leO, Nat.beq, reduceLT]
          omega
        · simp only [plnS, eL, eH, eG, leO, Nat.beq, reduceLT]
      simp only [plnS] at go
      generalize (p.turn k).getD i 0 = c at *
      refine Fun.plain (l1 c p.cells.length (by omega)) rfl rfl rfl rfl ?_; simp only [hT, eN, ↓If_lit, Int.reduceLT, Int.reduceLE, eA, Nat.beq, List.toArray, reduceAdd, reduceLT, reduceLeDiff, reduceToNat]; (try unfold lim); repeat first | ((with_reducible refine And.intro ?_ ?_); (first | omega | exact ⟨by omega, by omega⟩ | rfl)) | intro _
      refine ⟨fun q1 => ?_, fun q1 => ?_⟩
      · simp only [Bool.not_eq_true', Bool.or_eq_false_iff] at q1
        rw [yes (by unfold turnBad; rw [q1.1, q1.2]; rfl)]; rfl
      · refine ⟨fun q2 => ?_, fun q2 => ?_⟩
        · simp only [decide_eq_true_eq] at q2
          have q3 : has c p.cells.length = true := by
            have : decide (c = -1) = false := decide_eq_false (by omega)
            rw [this] at q1
            simpa using q1
          obtain ⟨b0, b1⟩ := has_iff q3
          have g1 : ∀ d, (p.cells.map cellS).getD c.toNat d = cellS (p.cell c.toNat) := fun d => getIn cellS p.cells _ d c0 (by omega)
          simp only [hT, g1, cellS, eA, Nat.beq, List.toArray, reduceAdd, reduceLT, reduceLeDiff, reduceToNat]
          (try unfold lim); repeat first | ((with_reducible refine And.intro ?_ ?_); (first | omega | exact ⟨by omega, by omega⟩ | rfl)) | intro _
          have e1 : decide (c = -1) = false := decide_eq_false (by omega)
          refine ⟨fun q4 => ?_, fun q4 => ?_⟩
          · rw [yes (by unfold turnBad; rw [e1, q3, q4]; rfl)]; rfl
          · exact ⟨⟨by omega, by omega⟩, go _ rfl rfl rfl (by unfold turnBad; rw [e1, q3, q4]; rfl)⟩
        · simp only [decide_eq_false_iff_not] at q2
          have e1 : decide (c = -1) = true := by
            cases e : decide (c = -1) with
            | true => rfl
            | false =>
              rw [e] at q1
              have := has_iff (by simpa using q1 : has c p.cells.length = true)
              omega
          exact ⟨⟨by omega, by omega⟩, go _ rfl rfl rfl (by unfold turnBad; rw [e1]; rfl)⟩
    · simp only [decide_eq_false_iff_not] at h
      obtain rfl : i = (p.turn k).length := by omega
      rw [hgood hp]; rfl
theorem TY_l9Turns {P : Program} (hP : P = Tryz.prog) : ((fldT P 43 6 = some ((6, (false, 1)))) ∧ ((tyT P 25 = some ((false, 1))) ∧ (lkT P 25 = 1))) ∧ ((fldT P 43 0 = some ((0, (false, 1)))) ∧ ((tyT P 3 = some ((false, 1))) ∧ (tyT P 43 = some ((true, 7))))) := by subst hP; refine ⟨⟨?_, ⟨?_, ?_⟩⟩, ⟨?_, ⟨?_, ?_⟩⟩⟩ <;> kernel_rfl
theorem l9Turns {P : Program} [Known P] (hP : P = Tryz.prog) (p : VPln) (n : Nat) (hn : p.1 = n) (h4 : n ≤ 4) (hs : Sz p) : Fun P 229 [.agg (plnS p)] (.int .i64 (if p.turns.length = n then fb n (bad13 p) else 0 : Nat)) := by
  refine fun_of (fn := Tryz.f229) (hP ▸ Tryz.func229) (by kernel_rfl) (by kernel_rfl) (by kernel_rfl) (by kernel_rfl) ?_
  have hT := TY_l9Turns hP
  have hm : P.follows .mixedOrders = true := by subst hP; kernel_rfl
  have el := @l9Turn P _ hP
  clear hP
  intro hl
  clear hl
  have ht := hs.t
  simp only [plnS, hn, Tryz.f229, hT, eA, Nat.beq, List.toArray, reduceAdd, reduceLT, reduceLeDiff, reduceToNat]
  (try unfold lim); repeat first | ((with_reducible refine And.intro ?_ ?_); (first | omega | exact ⟨by omega, by omega⟩ | rfl)) | intro _
  refine ⟨fun q => by rw [if_neg (by have q : ¬(p.turns.length : Int) = n := by simpa using q
                                     omega)]; rfl, fun q => ?_⟩
  have q : p.turns.length = n := by have q : (p.turns.length : Int) = n := by simpa using q
                                    omega
  rw [if_pos q]
  refine wpc_loop {i : Nat // i ≤ n ∧ ∀ j, j < i → bad13 p j = false} (fun i => ⟨[(1, .cp 0 0 0), (3, .int .i64 i.1)], [(0, ⟨7, [plnS p], [], true⟩)], 1⟩) (fun i => n - i.1) ⟨0, Nat.zero_le _, fun j hj => absurd hj (by omega)⟩ (Le.of [] (Nat.zero_le _) ?_ ?_ ?_) ?_
  · simp only [eL, eH, eG, leO, Nat.beq, reduceLT]
  · simp only [eL, eH, eG, leO, Nat.beq, reduceLT] <;> rfl
  · simp only [plnS, hn, eL, eH, eG, leO, Nat.beq, reduceLT]
  · rintro ⟨i, hi, hp⟩
    simp only [plnS, hn, hT, eA, Nat.beq, List.toArray, reduceAdd, reduceLT, reduceLeDiff, reduceToNat]
    refine ⟨fun h => ?_, fun h => ?_⟩
    · simp only [decide_eq_true_eq] at h
      have hil : i < n := by omega
      have el := el p i (by omega) hs
      simp only [plnS] at el
      simp only [hn] at el
      refine Fun.plain el rfl rfl rfl rfl ?_
      simp only [hT, eA, Nat.beq, List.toArray, reduceAdd, reduceLT, reduceLeDiff, reduceToNat]
      refine ⟨fun q => ?_, fun q => ?_⟩
      · rw [fb_at hil (by simpa using q) hp]
      · have q : bad13 p i = false := by simpa using q
        refine ⟨⟨by omega, by omega⟩, ⟨i + 1, hil, upto hp q⟩, by simp only; omega, Le.of [] (Nat.zero_le _) ?_ ?_ ?_⟩ <;> simp only [plnS, eL, eH, eG, leO, Nat.beq, reduceLT] <;> omega
    · simp only [decide_eq_false_iff_not] at h
      obtain rfl : i = n := by omega
      (try unfold lim); repeat first | ((with_reducible refine And.intro ?_ ?_); (first | omega | exact ⟨by omega, by omega⟩ | rfl)) | intro _
      rw [fb_none hp]
theorem any_take_succ (t : List Int) (f : Int → Bool) (k : Nat) (h : k < t.length) : (t.take (k + 1)).any f = ((t.take k).any f || f (t.getD k 0)) := by
  rw [List.take_add_one, List.getElem?_eq_getElem h, List.any_append, List.getD_eq_getElem?_getD, List.getElem?_eq_getElem h]
  simp
end Go.Proofs.YtjlmfcddbcoimaaGreat.C
