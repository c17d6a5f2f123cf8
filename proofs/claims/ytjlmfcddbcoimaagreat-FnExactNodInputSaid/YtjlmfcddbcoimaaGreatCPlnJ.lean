/- The checks of a plan, by the given text: idle cells, programs. -/
import Derived.Test.YtjlmfcddbcoimaaGreatCPlnI
set_option maxRecDepth 100000
set_option linter.unusedSimpArgs false
set_option linter.unusedVariables false
namespace Go.Proofs.YtjlmfcddbcoimaaGreat.C
open Go Go.Av Go.Proofs
open Nat (reduceAdd reduceLT reduceLeDiff reduceSub)
open Int (reduceToNat)
set_option maxHeartbeats 4000000
theorem TY_l9Idle {P : Program} (hP : P = Tryz.prog) : (((P.follows .mixedOrders = true) ∧ ((fldT P 43 3 = some ((3, (false, 1)))) ∧ (tyT P 39 = some ((false, 1))))) ∧ (((lkT P 39 = 1) ∧ (fldT P 43 5 = some ((5, (false, 1))))) ∧ ((tyT P 41 = some ((false, 1))) ∧ (lkT P 41 = 1)))) ∧ ((((fldT P 43 6 = some ((6, (false, 1)))) ∧ (tyT P 25 = some ((false, 1)))) ∧ ((elT P 39 = some ((true, (5, 56)))) ∧ (fldT P 156 0 = some ((0, (false, 1)))))) ∧ (((tyT P 3 = some ((false, 1))) ∧ (elT P 25 = some ((false, (1, 24))))) ∧ ((tyT P 33 = some ((false, 1))) ∧ (elT P 33 = some ((false, (1, 8))))))) := by subst hP; refine ⟨⟨⟨?_, ⟨?_, ?_⟩⟩, ⟨⟨?_, ?_⟩, ⟨?_, ?_⟩⟩⟩, ⟨⟨⟨?_, ?_⟩, ⟨?_, ?_⟩⟩, ⟨⟨?_, ?_⟩, ⟨?_, ?_⟩⟩⟩⟩ <;> kernel_rfl
theorem l9Idle {P : Program} [Known P] (hP : P = Tryz.prog) (p : VPln) (hs : Sz p) (h5 : ∀ k, k < p.cells.length → has (p.cell k).1 p.turns.length = true) (h13 : ∀ k, k < p.turns.length → (p.turn k).length = p.slots.length) : Fun P 230 [.agg (plnS p)] (.int .i64 (fb p.cells.length (bad14 p))) := by
  refine fun_of (fn := Tryz.f230) (hP ▸ Tryz.func230) (by kernel_rfl) (by kernel_rfl) (by kernel_rfl) (by kernel_rfl) ?_
  have hT := TY_l9Idle hP
  have hm : P.follows .mixedOrders = true := by subst hP; kernel_rfl
  clear hP
  intro hl
  clear hl
  have hc := hs.c
  have hz := hs.s
  simp only [plnS, Tryz.f230, hT, eA, Nat.beq, List.toArray, reduceAdd, reduceLT, reduceLeDiff, reduceToNat]
  refine wpc_loop {i : Nat // i ≤ p.cells.length ∧ ∀ j, j < i → bad14 p j = false} (fun i => ⟨[(1, .cp 0 0 0), (3, .int .i64 i.1)], [(0, ⟨7, [plnS p], [], true⟩)], 1⟩) (fun i => p.cells.length - i.1) ⟨0, Nat.zero_le _, fun j hj => absurd hj (by omega)⟩ (Le.of [] (Nat.zero_le _) ?_ ?_ ?_) ?_
  · simp only [eL, eH, eG, leO, Nat.beq, reduceLT]
  · simp only [eL, eH, eG, leO, Nat.beq, reduceLT] <;> rfl
  · simp only [plnS, eL, eH, eG, leO, Nat.beq, reduceLT]
  · rintro ⟨i, hi, hp⟩
    simp only [plnS, hT, eA, Nat.beq, List.toArray, reduceAdd, reduceLT, reduceLeDiff, reduceToNat]
    refine fun _ => ⟨fun h => ?_, fun h => ?_⟩
    · simp only [decide_eq_true_eq] at h
      have hil : i < p.cells.length := by omega
      obtain ⟨b0, b1⟩ := has_iff (h5 i hil)
      have hl := h13 (p.cell i).1.toNat (by omega)
      have hg : ∀ d, (p.cells.map cellS).getD i d = cellS (p.cell i) := fun d => getIn cellS p.cells i d c0 hil
      have hg2 : ∀ d, (p.turns.map turnS).getD (p.cell i).1.toNat d = turnS (p.turn (p.cell i).1.toNat) := fun d => getIn turnS p.turns _ d [] (by omega)
      have hb : bad14 p i = !(p.turn (p.cell i).1.toNat).any (isK i) := rfl
      have hl2 : p.turns.length ≤ 1048576 := hs.t
      generalize ht : p.turn (p.cell i).1.toNat = t at *
      refine wpc_loop {k : Nat // k ≤ p.slots.length} (fun k => ⟨[(1, .cp 0 0 0), (3, .int .i64 i), (4, .bool ((t.take k.1).any (isK i))), (5, .int .i64 k.1)], [(0, ⟨7, [plnS p], [], true⟩)], 1⟩) (fun k => p.slots.length - k.1) ⟨0, Nat.zero_le _⟩ (Le.of [] (Nat.zero_le _) ?_ ?_ ?_) ?_
      · simp only [eL, eH, eG, leO, Nat.beq, reduceLT]
      · simp only [eL, eH, eG, leO, Nat.beq, reduceLT] <;> simp
      · simp only [plnS, eL, eH, eG, leO, Nat.beq, reduceLT]
      · rintro ⟨k, hk⟩
        simp only [plnS, hT, eA, Nat.beq, List.toArray, reduceAdd, reduceLT, reduceLeDiff, reduceToNat]
        refine fun _ => ⟨fun h2 => ?_, fun h2 => ?_⟩
        · simp only [decide_eq_true_eq] at h2
          have hkl : k < t.length := by omega
          have hgk : ∀ d, (t.map intE).getD k d = intE (t.getD k 0) := fun d => getIn intE t k d 0 hkl
          have hs1 := any_take_succ t (isK i) k hkl
          refine wpc_read [0, 1, 2, 3, 4, 5, 6, 7, 8, 9, 10, 11, 12, 13, 14] hm (by kernel_rfl) ?_
          simp only [hT, hg, cellS, hg2, turnS, hgk, intE, eT, ↓If_lit, reduceSub, reduceCtorEq, eA, Nat.beq, List.toArray, reduceAdd, reduceLT, reduceLeDiff, reduceToNat]
          (try unfold lim); repeat first | ((with_reducible refine And.intro ?_ ?_); (first | omega | exact ⟨by omega, by omega⟩ | rfl)) | intro _
          refine ⟨fun q => ?_, fun q => ?_⟩
          · refine ⟨⟨by omega, by omega⟩, ⟨k + 1, by omega⟩, by simp only; omega, Le.of [] (Nat.zero_le _) ?_ ?_ ?_⟩
            · simp only [eL, eH, eG, leO, Nat.beq, reduceLT]
            · simp only [eL, eH, eG, leO, Nat.beq, reduceLT]
              exact ⟨by rw [hs1, show isK i (t.getD k 0) = true from q, Bool.or_true], by omega⟩
            · simp only [plnS, eL, eH, eG, leO, Nat.beq, reduceLT]
          · refine ⟨⟨by omega, by omega⟩, ⟨k + 1, by omega⟩, by simp only; omega, Le.of [] (Nat.zero_le _) ?_ ?_ ?_⟩
            · simp only [eL, eH, eG, leO, Nat.beq, reduceLT]
            · simp only [eL, eH, eG, leO, Nat.beq, reduceLT]
              exact ⟨by rw [hs1, show isK i (t.getD k 0) = false from q, Bool.or_false], by omega⟩
            · simp only [plnS, eL, eH, eG, leO, Nat.beq, reduceLT]
        · simp only [decide_eq_false_iff_not] at h2
          have ek : t.take k = t := List.take_of_length_le (by omega)
          rw [ek]
          refine ⟨fun q => ?_, fun q => ?_⟩
          · rw [fb_at hil (by rw [hb]; exact q) hp]
          · have q : bad14 p i = false := by rw [hb]; exact q
            refine ⟨⟨by omega, by omega⟩, ⟨i + 1, hil, upto hp q⟩, by simp only; omega, Le.of [] (Nat.zero_le _) ?_ ?_ ?_⟩ <;> simp only [plnS, eL, eH, eG, leO, Nat.beq, reduceLT] <;> omega
    · simp only [decide_eq_false_iff_not] at h
      obtain rfl : i = p.cells.length := by omega
      (try unfold lim); repeat first | ((with_reducible refine And.intro ?_ ?_); (first | omega | exact ⟨by omega, by omega⟩ | rfl)) | intro _
      rw [fb_none hp]
theorem ord_nn {o : VOrd} (h : ordOk o = true) (h' : o.1 = 9 ∨ o.1 = 10) : 0 ≤ o.2.1 := by
  unfold ordOk at h
  simp only [Bool.and_eq_true] at h
  have := h.2.1
  unfold nOk at this
  simp only [Bool.and_eq_true, decide_eq_true_eq] at this
  exact this.1
theorem TY_l9Owns {P : Program} (hP : P = Tryz.prog) : ((((fldT P 43 3 = some ((3, (false, 1)))) ∧ (tyT P 39 = some ((false, 1)))) ∧ ((elT P 39 = some ((true, (5, 56)))) ∧ (fldT P 156 3 = some ((4, (false, 1)))))) ∧ (((tyT P 154 = some ((false, 1))) ∧ (lkT P 154 = 1)) ∧ ((elT P 154 = some ((true, (4, 32)))) ∧ ((tyT P 274 = some ((true, 4))) ∧ (zeroT P 274 = some (((.int .i64 0) :: ((.int .i64 0) :: ((.int .i64 0) :: ((.int .i64 0) :: [])))))))))) ∧ ((((fldT P 274 0 = some ((0, (false, 1)))) ∧ (tyT P 3 = some ((false, 1)))) ∧ ((fldT P 274 1 = some ((1, (false, 1)))) ∧ (fldT P 43 4 = some ((4, (false, 1)))))) ∧ (((tyT P 40 = some ((false, 1))) ∧ (lkT P 40 = 1)) ∧ ((elT P 40 = some ((true, (5, 56)))) ∧ ((fldT P 160 0 = some ((0, (false, 1)))) ∧ (fldT P 160 1 = some ((1, (false, 1)))))))) := by subst hP; refine ⟨⟨⟨⟨?_, ?_⟩, ⟨?_, ?_⟩⟩, ⟨⟨?_, ?_⟩, ⟨?_, ⟨?_, ?_⟩⟩⟩⟩, ⟨⟨⟨?_, ?_⟩, ⟨?_, ?_⟩⟩, ⟨⟨?_, ?_⟩, ⟨?_, ⟨?_, ?_⟩⟩⟩⟩⟩ <;> kernel_rfl
theorem l9Owns {P : Program} [Known P] (hP : P = Tryz.prog) (p : VPln) (k : Nat) (hk : k < p.cells.length) (hs : Sz p) (hco : codOk (p.cell k).2.2.2.1 = true) : Fun P 283 [.agg (plnS p), .int .i64 k] (.bool (!bad15 p k)) := by
  refine fun_of (fn := Tryz.f283) (hP ▸ Tryz.func283) (by kernel_rfl) (by kernel_rfl) (by kernel_rfl) (by kernel_rfl) ?_
  have hT := TY_l9Owns hP
  have hm : P.follows .mixedOrders = true := by subst hP; kernel_rfl
  clear hP
  intro hl
  clear hl
  have hg : ∀ d, (p.cells.map cellS).getD k d = cellS (p.cell k) := fun d => getIn cellS p.cells k d c0 hk
  have l1 := hs.cs k hk
  have l3 := hs.w
  have l2 := hs.c
  clear hs
  change (p.cell k).2.2.2.1.length ≤ _ at l1
  have hcc : ∀ j, j < (p.cell k).2.2.2.1.length → ordOk ((p.cell k).2.2.2.1.getD j o0) = true := by
    intro j hj
    unfold codOk at hco
    simp only [Bool.and_eq_true] at hco
    have := (all_get _ _ o0).1 hco.2 j hj
    unfold ordIn at this
    simp only [Bool.and_eq_true] at this
    exact this.1
  unfold bad15
  simp only [plnS, hg, cellS, Tryz.f283, hT, eA, Nat.beq, List.toArray, reduceAdd, reduceLT, reduceLeDiff, reduceToNat]
  clear hg
  generalize (p.cell k).2.2.2.1 = t at *
  (try unfold lim); repeat first | ((with_reducible refine And.intro ?_ ?_); (first | omega | exact ⟨by omega, by omega⟩ | rfl)) | intro _
  refine wpc_loop {i : Nat // i ≤ t.length ∧ ∀ j, j < i → ordBad p k (t.getD j o0) = false} (fun i => ⟨[(1, .int .i64 k), (2, .cp 0 0 0), (5, codeS t), (6, .int .i64 i.1)], [(0, ⟨7, [plnS p], [], true⟩)], 1⟩) (fun i => t.length - i.1) ⟨0, Nat.zero_le _, fun j hj => absurd hj (by omega)⟩ (Le.of [] (Nat.zero_le _) ?_ ?_ ?_) ?_
  · simp only [eL, eH, eG, leO, Nat.beq, reduceLT]
  · simp only [eL, eH, eG, leO, Nat.beq, reduceLT] <;> rfl
  · simp only [plnS, eL, eH, eG, leO, Nat.beq, reduceLT]
  · rintro ⟨i, hi, hp⟩
    by_cases hil : i < t.length
    · have hlt' : decide ((i : Int) < t.length) = true := decide_eq_true (by omega)
      have hgi : ∀ d, (t.map ordE).getD i d = ordE (t.getD i o0) := fun d => getIn ordE t i d o0 hil
      have hoo := hcc i hil
      have yes : ordBad p k (t.getD i o0) = true → t.any (ordBad p k) = true := fun h => any_at o0 hil h
      have go : ∀ (tm : List (Nat × AV)) (ob : Nat × Ob) (n : Nat), gtm tm 1 = .int .i64 k → gtm tm 2 = .cp 0 0 0 → gtm tm 5 = codeS t → gtm tm 6 = .int .i64 ((i : Int) + 1) → ob.1 = 1 → ordBad p k (t.getD i o0) = false → ∃ x' : {i : Nat // i ≤ t.length ∧ ∀ j, j < i → ordBad p k (t.getD j o0) = false}, t.length - x'.val < t.length - i ∧ Le P 0 ⟨tm, [ob, (0, ⟨7, [plnS p], [], true⟩)], n⟩ ⟨[(1, .int .i64 k), (2, .cp 0 0 0), (5, codeS t), (6, .int .i64 x'.1)], [(0, ⟨7, [plnS p], [], true⟩)], 1⟩ := by
        intro tm ob n e1 e2 e5 e6 eo q
        obtain ⟨oo1, oo2⟩ := ob
        simp only at eo
        subst eo
        refine ⟨⟨i + 1, hil, upto hp q⟩, by simp only; omega, Le.of [] (Nat.zero_le _) ?_ ?_ ?_⟩
        · simp only [eL, eH, eG, leO, Nat.beq, reduceLT]
        · simp only [e1, e2, e5, e6, eL, eH, eG, leO, Nat.beq, reduceLT]
          omega
        · simp only [plnS, eL, eH, eG, leO, Nat.beq, reduceLT]
      simp only [plnS] at go
      generalize t.getD i o0 = o at *
      have hlt : (o.1 = 9 ∨ o.1 = 10) → ∀ b, decide ((p.ways.length : Int) ≤ o.2.1) = b → has o.2.1 p.ways.length = !b := by
        intro h1 b hb
        have := ord_nn hoo h1
        subst hb
        unfold has
        rw [decide_eq_true this, Bool.true_and, ← decide_not]
        exact decide_eq_decide.2 (by omega)
      have gw : has o.2.1 p.ways.length = true → ∀ d, (p.ways.map wayS).getD o.2.1.toNat d = wayS (p.way o.2.1.toNat) := fun h d => getIn wayS p.ways _ d w0 (by have := has_iff h; omega)
      by_cases e9 : o.1 = 9
      · have d9 : decide (o.1 = 9) = true := decide_eq_true e9
        have d10 : decide (o.1 = 10) = false := decide_eq_false (by omega)
        simp only [plnS, hlt', hgi, ordE, d9, d10, ↓If_lit, hT, eA, Nat.beq, List.toArray, reduceAdd, reduceLT, reduceLeDiff, reduceToNat]
        (try unfold lim); repeat first | ((with_reducible refine And.intro ?_ ?_); (first | omega | exact ⟨by omega, by omega⟩ | rfl)) | intro _
        refine ⟨fun q => ?_, fun q => ?_⟩
        · rw [yes (by unfold ordBad; rw [d9, d10, hlt (.inl e9) _ q]; rfl)]; rfl
        · have hh := hlt (.inl e9) _ q
          obtain ⟨b0, b1⟩ := has_iff hh
          simp only [d9, d10, ↓If_lit, hT, gw hh, wayS, eA, Nat.beq, List.toArray, reduceAdd, reduceLT, reduceLeDiff, reduceToNat]
          (try unfold lim); repeat first | ((with_reducible refine And.intro ?_ ?_); (first | omega | exact ⟨by omega, by omega⟩ | rfl)) | intro _
          refine ⟨fun q2 => ?_, fun q2 => ?_⟩
          · rw [yes (by unfold ordBad; rw [d9, d10, hh, q2]; rfl)]; rfl
          · exact ⟨⟨by omega, by omega⟩, go _ _ _ rfl rfl rfl rfl rfl (by unfold ordBad; rw [d9, d10, hh, q2]; rfl)⟩
      · have d9 : decide (o.1 = 9) = false := decide_eq_false e9
        by_cases e10 : o.1 = 10
        · have d10 : decide (o.1 = 10) = true := decide_eq_true e10
          simp only [plnS, hlt', hgi, ordE, d9, d10, ↓If_lit, hT, eA, Nat.beq, List.toArray, reduceAdd, reduceLT, reduceLeDiff, reduceToNat]
          (try unfold lim); repeat first | ((with_reducible refine And.intro ?_ ?_); (first | omega | exact ⟨by omega, by omega⟩ | rfl)) | intro _
          refine ⟨fun q => ?_, fun q => ?_⟩
          · rw [yes (by unfold ordBad; rw [d9, d10, hlt (.inr e10) _ q]; rfl)]; rfl
          · have hh := hlt (.inr e10) _ q
            obtain ⟨b0, b1⟩ := has_iff hh
            simp only [d9, d10, ↓If_lit, hT, gw hh, wayS, eA, Nat.beq, List.toArray, reduceAdd, reduceLT, reduceLeDiff, reduceToNat]
            (try unfold lim); repeat first | ((with_reducible refine And.intro ?_ ?_); (first | omega | exact ⟨by omega, by omega⟩ | rfl)) | intro _
            refine ⟨fun q2 => ?_, fun q2 => ?_⟩
            · rw [yes (by unfold ordBad; rw [d9, d10, hh, q2]; rfl)]; rfl
            · exact ⟨⟨by omega, by omega⟩, go _ _ _ rfl rfl rfl rfl rfl (by unfold ordBad; rw [d9, d10, hh, q2]; rfl)⟩
        · have d10 : decide (o.1 = 10) = false := decide_eq_false e10
          simp only [plnS, hlt', hgi, ordE, d9, d10, ↓If_lit, hT, eA, Nat.beq, List.toArray, reduceAdd, reduceLT, reduceLeDiff, reduceToNat]
          (try unfold lim); repeat first | ((with_reducible refine And.intro ?_ ?_); (first | omega | exact ⟨by omega, by omega⟩ | rfl)) | intro _
          exact go _ _ _ rfl rfl rfl rfl rfl (by unfold ordBad; rw [d9, d10]; rfl)
    · obtain rfl : i = t.length := by omega
      have hlt' : decide ((t.length : Int) < t.length) = false := decide_eq_false (by omega)
      simp only [plnS, hlt', ↓If_lit, hT, eA, Nat.beq, List.toArray, reduceAdd, reduceLT, reduceLeDiff, reduceToNat]
      (try unfold lim); repeat first | ((with_reducible refine And.intro ?_ ?_); (first | omega | exact ⟨by omega, by omega⟩ | rfl)) | intro _
      rw [any_none o0 hp]; rfl
theorem TY_l9Takes {P : Program} (hP : P = Tryz.prog) : ((fldT P 43 3 = some ((3, (false, 1)))) ∧ (tyT P 39 = some ((false, 1)))) ∧ ((lkT P 39 = 1) ∧ (tyT P 43 = some ((true, 7)))) := by subst hP; refine ⟨⟨?_, ?_⟩, ⟨?_, ?_⟩⟩ <;> kernel_rfl
theorem l9Takes {P : Program} [Known P] (hP : P = Tryz.prog) (p : VPln) (hs : Sz p) (hco : ∀ k, k < p.cells.length → codOk (p.cell k).2.2.2.1 = true) : Fun P 231 [.agg (plnS p)] (.int .i64 (fb p.cells.length (bad15 p))) := by
  refine fun_of (fn := Tryz.f231) (hP ▸ Tryz.func231) (by kernel_rfl) (by kernel_rfl) (by kernel_rfl) (by kernel_rfl) ?_
  have hT := TY_l9Takes hP
  have hm : P.follows .mixedOrders = true := by subst hP; kernel_rfl
  have el := @l9Owns P _ hP
  clear hP
  intro hl
  clear hl
  simp only [plnS, Tryz.f231, hT, eA, Nat.beq, List.toArray, reduceAdd, reduceLT, reduceLeDiff, reduceToNat]
  refine wpc_loop {i : Nat // i ≤ p.cells.length ∧ ∀ j, j < i → bad15 p j = false} (fun i => ⟨[(1, .cp 0 0 0), (3, .int .i64 i.1)], [(0, ⟨7, [plnS p], [], true⟩)], 1⟩) (fun i => p.cells.length - i.1) ⟨0, Nat.zero_le _, fun j hj => absurd hj (by omega)⟩ (Le.of [] (Nat.zero_le _) ?_ ?_ ?_) ?_
  · simp only [eL, eH, eG, leO, Nat.beq, reduceLT]
  · simp only [eL, eH, eG, leO, Nat.beq, reduceLT] <;> rfl
  · simp only [plnS, eL, eH, eG, leO, Nat.beq, reduceLT]
  · rintro ⟨i, hi, hp⟩
    simp only [plnS, hT, eA, Nat.beq, List.toArray, reduceAdd, reduceLT, reduceLeDiff, reduceToNat]
    have hc := hs.c
    refine fun _ => ⟨fun h => ?_, fun h => ?_⟩
    · simp only [decide_eq_true_eq] at h
      have hil : i < p.cells.length := by omega
      have el := el p i hil hs (hco i hil)
      simp only [plnS] at el
      refine Fun.plain el rfl rfl rfl rfl ?_
      simp only [hT, eA, Nat.beq, List.toArray, reduceAdd, reduceLT, reduceLeDiff, reduceToNat]
      refine ⟨fun q => ?_, fun q => ?_⟩
      · rw [fb_at hil (by simpa using q) hp]
      · have q : bad15 p i = false := by simpa using q
        refine ⟨⟨by omega, by omega⟩, ⟨i + 1, hil, upto hp q⟩, by simp only; omega, Le.of [] (Nat.zero_le _) ?_ ?_ ?_⟩ <;> simp only [plnS, eL, eH, eG, leO, Nat.beq, reduceLT] <;> omega
    · simp only [decide_eq_false_iff_not] at h
      obtain rfl : i = p.cells.length := by omega
      (try unfold lim); repeat first | ((with_reducible refine And.intro ?_ ?_); (first | omega | exact ⟨by omega, by omega⟩ | rfl)) | intro _
      rw [fb_none hp]
end Go.Proofs.YtjlmfcddbcoimaaGreat.C
