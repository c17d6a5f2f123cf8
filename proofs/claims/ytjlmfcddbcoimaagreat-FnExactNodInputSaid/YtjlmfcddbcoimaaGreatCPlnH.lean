/- The checks of a plan, by the given text: leaks, slots. -/
import Derived.Test.YtjlmfcddbcoimaaGreatCPlnG
set_option maxRecDepth 100000
set_option linter.unusedSimpArgs false
set_option linter.unusedVariables false
namespace Go.Proofs.YtjlmfcddbcoimaaGreat.C
open Go Go.Av Go.Proofs
open Nat (reduceAdd reduceLT reduceLeDiff reduceSub)
open Int (reduceToNat)
theorem TY_l9Leaks {P : Program} (hP : P = Tryz.prog) : ((((P.follows .mixedOrders = true) ∧ (fldT P 43 4 = some ((4, (false, 1))))) ∧ ((tyT P 40 = some ((false, 1))) ∧ (lkT P 40 = 1))) ∧ (((elT P 40 = some ((true, (5, 56)))) ∧ (tyT P 160 = some ((true, 5)))) ∧ ((zeroT P 160 = some (((.int .i64 0) :: ((.int .i64 0) :: ((.int .i64 0) :: ((.bool false) :: (.nils :: []))))))) ∧ (fldT P 160 3 = some ((3, (false, 1))))))) ∧ ((((tyT P 4 = some ((false, 1))) ∧ (fldT P 43 3 = some ((3, (false, 1))))) ∧ ((tyT P 39 = some ((false, 1))) ∧ (fldT P 160 0 = some ((0, (false, 1)))))) ∧ (((tyT P 3 = some ((false, 1))) ∧ (elT P 39 = some ((true, (5, 56))))) ∧ ((fldT P 156 1 = some ((1, (true, 2)))) ∧ ((tyT P 153 = some ((true, 2))) ∧ (fldT P 160 1 = some ((1, (false, 1)))))))) := by subst hP; refine ⟨⟨⟨⟨?_, ?_⟩, ⟨?_, ?_⟩⟩, ⟨⟨?_, ?_⟩, ⟨?_, ?_⟩⟩⟩, ⟨⟨⟨?_, ?_⟩, ⟨?_, ?_⟩⟩, ⟨⟨?_, ?_⟩, ⟨?_, ⟨?_, ?_⟩⟩⟩⟩⟩ <;> kernel_rfl
theorem l9Leaks {P : Program} [Known P] (hP : P = Tryz.prog) (p : VPln) (hs : Sz p) (h7 : ∀ k, k < p.ways.length → has (p.way k).1 p.cells.length = true ∧ has (p.way k).2.1 p.cells.length = true) : Fun P 225 [.agg (plnS p)] (.int .i64 (fb p.ways.length (bad8 p))) := by
  refine fun_of (fn := Tryz.f225) (hP ▸ Tryz.func225) (by kernel_rfl) (by kernel_rfl) (by kernel_rfl) (by kernel_rfl) ?_
  have hT := TY_l9Leaks hP
  have hm : P.follows .mixedOrders = true := by subst hP; kernel_rfl
  have fl := @flowsS P _ hP
  clear hP
  intro hl
  clear hl
  have hw := hs.w
  simp only [plnS, Tryz.f225, hT, eA, Nat.beq, List.toArray, reduceAdd, reduceLT, reduceLeDiff, reduceToNat]
  refine wpc_loop {i : Nat // i ≤ p.ways.length ∧ ∀ j, j < i → bad8 p j = false} (fun i => ⟨[(1, .cp 0 0 0), (3, .int .i64 i.1)], [(0, ⟨7, [plnS p], [], true⟩)], 1⟩) (fun i => p.ways.length - i.1) ⟨0, Nat.zero_le _, fun j hj => absurd hj (by omega)⟩ (Le.of [] (Nat.zero_le _) ?_ ?_ ?_) ?_
  · simp only [eL, eH, eG, leO, Nat.beq, reduceLT]
  · simp only [eL, eH, eG, leO, Nat.beq, reduceLT] <;> rfl
  · simp only [plnS, eL, eH, eG, leO, Nat.beq, reduceLT]
  · rintro ⟨i, hi, hp⟩
    simp only [plnS, hT, eA, Nat.beq, List.toArray, reduceAdd, reduceLT, reduceLeDiff, reduceToNat]
    refine fun _ => ⟨fun h => ?_, fun h => ?_⟩
    · simp only [decide_eq_true_eq] at h
      have hil : i < p.ways.length := by omega
      have hg : ∀ d, (p.ways.map wayS).getD i d = wayS (p.way i) := fun d => getIn wayS p.ways i d w0 hil
      obtain ⟨b1, b1'⟩ := has_iff (h7 i hil).1
      obtain ⟨b2, b2'⟩ := has_iff (h7 i hil).2
      have g1 : ∀ d, (p.cells.map cellS).getD (p.way i).1.toNat d = cellS (p.cell (p.way i).1.toNat) := fun d => getIn cellS p.cells _ d c0 (by omega)
      have g2 : ∀ d, (p.cells.map cellS).getD (p.way i).2.1.toNat d = cellS (p.cell (p.way i).2.1.toNat) := fun d => getIn cellS p.cells _ d c0 (by omega)
      simp only [hT, hg, wayS, eA, Nat.beq, List.toArray, reduceAdd, reduceLT, reduceLeDiff, reduceToNat]
      (try unfold lim); repeat first | ((with_reducible refine And.intro ?_ ?_); (first | omega | exact ⟨by omega, by omega⟩ | rfl)) | intro _
      have at_ : bad8 p i = true → (i : Int) = (fb p.ways.length (bad8 p) : Nat) := fun q => by rw [fb_at hil q hp]
      have go : ∀ (tm : List (Nat × AV)) (ob : Nat × Ob) (n : Nat), 2 ≤ n → gtm tm 1 = .cp 0 0 0 → gtm tm 3 = .int .i64 ((i : Int) + 1) → ob.1 = 1 → bad8 p i = false → ∃ x' : {i : Nat // i ≤ p.ways.length ∧ ∀ j, j < i → bad8 p j = false}, p.ways.length - x'.val < p.ways.length - i ∧ Le P 0 ⟨tm, [ob, (0, ⟨7, [plnS p], [], true⟩)], n⟩ ⟨[(1, .cp 0 0 0), (3, .int .i64 x'.1)], [(0, ⟨7, [plnS p], [], true⟩)], 1⟩ := by
        intro tm ob n hn e1 e3 eo q
        obtain ⟨o1, o2⟩ := ob
        simp only at eo
        subst eo
        refine ⟨⟨i + 1, hil, upto hp q⟩, by simp only; omega, Le.of [] (Nat.zero_le _) ?_ ?_ ?_⟩
        · simp only [eL, eH, eG, leO, Nat.beq, reduceLT]
        · simp only [e1, e3, eL, eH, eG, leO, Nat.beq, reduceLT]
          omega
        · simp only [plnS, eL, eH, eG, leO, Nat.beq, reduceLT]
      simp only [plnS] at go
      unfold bad8 at at_ go
      refine wpc_read [0, 1, 2, 3, 4, 5, 6, 7, 8, 9, 10, 11, 12, 13, 14, 15, 16, 17, 18, 19, 20] hm (by kernel_rfl) ?_
      simp only [hT, g1, g2, cellS, eT, ↓If_lit, reduceSub, reduceCtorEq, eA, Nat.beq, List.toArray, reduceAdd, reduceLT, reduceLeDiff, reduceToNat]
      refine ⟨fun q => ?_, fun q => ?_⟩
      · (try unfold lim); repeat first | ((with_reducible refine And.intro ?_ ?_); (first | omega | exact ⟨by omega, by omega⟩ | rfl)) | intro _
        refine Fun.pcall (fl _ _ _ _) (by exact rfl) rfl rfl rfl rfl ?_; simp only [hT, nneg, decide_true, decide_false, ↓If_lit, Int.cast_ofNat_Int, Int.reduceLT, Int.reduceLE, eT, ↓If_lit, reduceSub, reduceCtorEq, eA, Nat.beq, List.toArray, reduceAdd, reduceLT, reduceLeDiff, reduceToNat]; (try unfold lim); repeat first | ((with_reducible refine And.intro ?_ ?_); (first | omega | exact ⟨by omega, by omega⟩ | rfl)) | intro _
        refine ⟨fun q2 => ?_, fun q2 => ?_⟩
        · exact at_ (by rw [q, q2]; rfl)
        · exact ⟨⟨by omega, by omega⟩, go _ _ _ (by omega) rfl rfl rfl (by rw [q, q2]; rfl)⟩
      · exact ⟨⟨by omega, by omega⟩, go _ _ _ (by omega) rfl rfl rfl (by rw [q]; rfl)⟩
    · simp only [decide_eq_false_iff_not] at h
      obtain rfl : i = p.ways.length := by omega
      (try unfold lim); repeat first | ((with_reducible refine And.intro ?_ ?_); (first | omega | exact ⟨by omega, by omega⟩ | rfl)) | intro _
      rw [fb_none hp]
theorem TY_l9Slot {P : Program} (hP : P = Tryz.prog) : (((P.follows .mixedOrders = true) ∧ ((fldT P 208 0 = some ((0, (false, 1)))) ∧ (tyT P 3 = some ((false, 1))))) ∧ (((fldT P 43 0 = some ((0, (false, 1)))) ∧ (fldT P 208 1 = some ((1, (false, 1))))) ∧ ((fldT P 43 4 = some ((4, (false, 1)))) ∧ (tyT P 40 = some ((false, 1)))))) ∧ (((lkT P 40 = 1) ∧ ((fldT P 43 3 = some ((3, (false, 1)))) ∧ (tyT P 39 = some ((false, 1))))) ∧ (((elT P 40 = some ((true, (5, 56)))) ∧ (fldT P 160 0 = some ((0, (false, 1))))) ∧ ((elT P 39 = some ((true, (5, 56)))) ∧ (fldT P 156 0 = some ((0, (false, 1))))))) := by subst hP; refine ⟨⟨⟨?_, ⟨?_, ?_⟩⟩, ⟨⟨?_, ?_⟩, ⟨?_, ?_⟩⟩⟩, ⟨⟨?_, ⟨?_, ?_⟩⟩, ⟨⟨?_, ?_⟩, ⟨?_, ?_⟩⟩⟩⟩ <;> kernel_rfl
theorem l9Slot {P : Program} [Known P] (hP : P = Tryz.prog) (p : VPln) (k n : Nat) (hn : p.1 = n) (h1 : 1 ≤ n) (h4 : n ≤ 4) (hs : Sz p) (h7 : ∀ k, k < p.ways.length → has (p.way k).1 p.cells.length = true ∧ has (p.way k).2.1 p.cells.length = true) : Fun P 280 [.agg (plnS p), .agg (slotE (p.slot k))] (.bool (!bad10 p k)) := by
  refine fun_of (fn := Tryz.f280) (hP ▸ Tryz.func280) (by kernel_rfl) (by kernel_rfl) (by kernel_rfl) (by kernel_rfl) ?_
  have hT := TY_l9Slot hP
  have hm : P.follows .mixedOrders = true := by subst hP; kernel_rfl
  have li := @l1h P _ hP
  have l1 := @l1h1 P _ hP
  clear hP
  intro hl
  clear hl
  have hw := hs.w
  clear hs
  unfold bad10
  rw [hn]
  generalize p.slot k = s at *
  simp only [plnS, hn, slotE, Tryz.f280, hT, eA, Nat.beq, List.toArray, reduceAdd, reduceLT, reduceLeDiff, reduceToNat]
  (try unfold lim); repeat first | ((with_reducible refine And.intro ?_ ?_); (first | omega | exact ⟨by omega, by omega⟩ | rfl)) | intro _
  refine Fun.plain (li _ n) rfl rfl rfl rfl ?_; simp only [hT, eN, ↓If_lit, Int.reduceLT, Int.reduceLE, eA, Nat.beq, List.toArray, reduceAdd, reduceLT, reduceLeDiff, reduceToNat]; (try unfold lim); repeat first | ((with_reducible refine And.intro ?_ ?_); (first | omega | exact ⟨by omega, by omega⟩ | rfl)) | intro _
  refine ⟨fun q => by rw [q]; rfl, fun q => ?_⟩
  (try unfold lim); repeat first | ((with_reducible refine And.intro ?_ ?_); (first | omega | exact ⟨by omega, by omega⟩ | rfl)) | intro _
  refine Fun.plain (l1 _ p.ways.length (by omega)) rfl rfl rfl rfl ?_; simp only [hT, eN, ↓If_lit, Int.reduceLT, Int.reduceLE, eA, Nat.beq, List.toArray, reduceAdd, reduceLT, reduceLeDiff, reduceToNat]; (try unfold lim); repeat first | ((with_reducible refine And.intro ?_ ?_); (first | omega | exact ⟨by omega, by omega⟩ | rfl)) | intro _
  refine ⟨fun q2 => ?_, fun q2 => ?_⟩
  · simp only [Bool.not_eq_true', Bool.or_eq_false_iff] at q2
    rw [q, q2.1, q2.2]; rfl
  · refine wpc_read [0, 1, 2, 3, 4, 5, 6, 7, 8, 9, 10, 11, 12, 13, 14, 15, 16, 17, 18, 19, 20] hm (by kernel_rfl) ?_
    by_cases e : s.2.1 = -1
    · simp only [hT, decide_eq_true e, ↓If_lit, eT, ↓If_lit, reduceSub, reduceCtorEq, eA, Nat.beq, List.toArray, reduceAdd, reduceLT, reduceLeDiff, reduceToNat]
      rw [q]; rfl
    · have hh : has s.2.1 p.ways.length = true := by simpa [e] using q2
      obtain ⟨b0, b1⟩ := has_iff hh
      obtain ⟨b2, b3⟩ := has_iff (h7 s.2.1.toNat (by omega)).1
      have hg : ∀ d, (p.ways.map wayS).getD s.2.1.toNat d = wayS (p.way s.2.1.toNat) := fun d => getIn wayS p.ways _ d w0 (by omega)
      have g1 : ∀ d, (p.cells.map cellS).getD (p.way s.2.1.toNat).1.toNat d = cellS (p.cell (p.way s.2.1.toNat).1.toNat) := fun d => getIn cellS p.cells _ d c0 (by omega)
      simp only [hT, decide_eq_false e, ↓If_lit, hg, wayS, g1, cellS, eT, ↓If_lit, reduceSub, reduceCtorEq, eA, Nat.beq, List.toArray, reduceAdd, reduceLT, reduceLeDiff, reduceToNat]
      (try unfold lim); repeat first | ((with_reducible refine And.intro ?_ ?_); (first | omega | exact ⟨by omega, by omega⟩ | rfl)) | intro _
      rw [q, hh]
      unfold begins
      simp
theorem TY_l9Slots {P : Program} (hP : P = Tryz.prog) : ((P.follows .mixedOrders = true) ∧ ((fldT P 43 5 = some ((5, (false, 1)))) ∧ (tyT P 41 = some ((false, 1))))) ∧ (((lkT P 41 = 1) ∧ (tyT P 43 = some ((true, 7)))) ∧ ((elT P 41 = some ((true, (2, 16)))) ∧ (tyT P 208 = some ((true, 2))))) := by subst hP; refine ⟨⟨?_, ⟨?_, ?_⟩⟩, ⟨⟨?_, ?_⟩, ⟨?_, ?_⟩⟩⟩ <;> kernel_rfl
theorem l9Slots {P : Program} [Known P] (hP : P = Tryz.prog) (p : VPln) (n : Nat) (hn : p.1 = n) (h1 : 1 ≤ n) (h4 : n ≤ 4) (hs : Sz p) (h7 : ∀ k, k < p.ways.length → has (p.way k).1 p.cells.length = true ∧ has (p.way k).2.1 p.cells.length = true) : Fun P 226 [.agg (plnS p)] (.int .i64 (fb p.slots.length (bad10 p))) := by
  refine fun_of (fn := Tryz.f226) (hP ▸ Tryz.func226) (by kernel_rfl) (by kernel_rfl) (by kernel_rfl) (by kernel_rfl) ?_
  have hT := TY_l9Slots hP
  have hm : P.follows .mixedOrders = true := by subst hP; kernel_rfl
  have el := @l9Slot P _ hP
  clear hP
  intro hl
  clear hl
  simp only [plnS, Tryz.f226, hT, eA, Nat.beq, List.toArray, reduceAdd, reduceLT, reduceLeDiff, reduceToNat]
  refine wpc_loop {i : Nat // i ≤ p.slots.length ∧ ∀ j, j < i → bad10 p j = false} (fun i => ⟨[(1, .cp 0 0 0), (3, .int .i64 i.1)], [(0, ⟨7, [plnS p], [], true⟩)], 1⟩) (fun i => p.slots.length - i.1) ⟨0, Nat.zero_le _, fun j hj => absurd hj (by omega)⟩ (Le.of [] (Nat.zero_le _) ?_ ?_ ?_) ?_
  · simp only [eL, eH, eG, leO, Nat.beq, reduceLT]
  · simp only [eL, eH, eG, leO, Nat.beq, reduceLT] <;> rfl
  · simp only [plnS, eL, eH, eG, leO, Nat.beq, reduceLT]
  · rintro ⟨i, hi, hp⟩
    simp only [plnS, hT, eA, Nat.beq, List.toArray, reduceAdd, reduceLT, reduceLeDiff, reduceToNat]
    have hc := hs.s
    refine fun _ => ⟨fun h => ?_, fun h => ?_⟩
    · simp only [decide_eq_true_eq] at h
      have hil : i < p.slots.length := by omega
      have hg : ∀ d, (p.slots.map slotE).getD i d = slotE (p.slot i) := fun d => getIn slotE p.slots i d s0 hil
      have el := el p i n hn h1 h4 hs h7
      simp only [plnS, slotE] at el
      refine wpc_read [0, 1, 2, 3, 4, 5, 6, 7] hm (by kernel_rfl) ?_
      simp only [hT, hg, slotE, eT, ↓If_lit, reduceSub, reduceCtorEq, eA, Nat.beq, List.toArray, reduceAdd, reduceLT, reduceLeDiff, reduceToNat]
      (try unfold lim); repeat first | ((with_reducible refine And.intro ?_ ?_); (first | omega | exact ⟨by omega, by omega⟩ | rfl)) | intro _
      refine Fun.pcall (el) (by exact rfl) rfl rfl rfl rfl ?_; simp only [hT, nneg, decide_true, decide_false, ↓If_lit, Int.cast_ofNat_Int, Int.reduceLT, Int.reduceLE, eT, ↓If_lit, reduceSub, reduceCtorEq, eA, Nat.beq, List.toArray, reduceAdd, reduceLT, reduceLeDiff, reduceToNat]; (try unfold lim); repeat first | ((with_reducible refine And.intro ?_ ?_); (first | omega | exact ⟨by omega, by omega⟩ | rfl)) | intro _
      refine ⟨fun q => ?_, fun q => ?_⟩
      · rw [fb_at hil (by simpa using q) hp]
      · have q : bad10 p i = false := by simpa using q
        refine ⟨⟨by omega, by omega⟩, ⟨i + 1, hil, upto hp q⟩, by simp only; omega, Le.of [] (Nat.zero_le _) ?_ ?_ ?_⟩ <;> simp only [plnS, eL, eH, eG, leO, Nat.beq, reduceLT] <;> omega
    · simp only [decide_eq_false_iff_not] at h
      obtain rfl : i = p.slots.length := by omega
      (try unfold lim); repeat first | ((with_reducible refine And.intro ?_ ?_); (first | omega | exact ⟨by omega, by omega⟩ | rfl)) | intro _
      rw [fb_none hp]
def slotIs' (n w : Int) (s : VSlot) : Bool := decide (s.2.1 = w) && (decide (n < 0) || decide (s.1 = n))
theorem TY_l9Has {P : Program} (hP : P = Tryz.prog) : ((fldT P 43 5 = some ((5, (false, 1)))) ∧ ((tyT P 41 = some ((false, 1))) ∧ (lkT P 41 = 1))) ∧ (((elT P 41 = some ((true, (2, 16)))) ∧ (fldT P 208 1 = some ((1, (false, 1))))) ∧ ((tyT P 3 = some ((false, 1))) ∧ (fldT P 208 0 = some ((0, (false, 1)))))) := by subst hP; refine ⟨⟨?_, ⟨?_, ?_⟩⟩, ⟨⟨?_, ?_⟩, ⟨?_, ?_⟩⟩⟩ <;> kernel_rfl
theorem l9Has {P : Program} [Known P] (hP : P = Tryz.prog) (p : VPln) (hs : Sz p) (n w : Int) : Fun P 281 [.agg (plnS p), .int .i64 n, .int .i64 w] (.bool (p.slots.any (slotIs' n w))) := by
  refine fun_of (fn := Tryz.f281) (hP ▸ Tryz.func281) (by kernel_rfl) (by kernel_rfl) (by kernel_rfl) (by kernel_rfl) ?_
  have hT := TY_l9Has hP
  have hm : P.follows .mixedOrders = true := by subst hP; kernel_rfl
  clear hP
  intro hl
  clear hl
  have hz := hs.s
  clear hs
  simp only [plnS, Tryz.f281, hT, eA, Nat.beq, List.toArray, reduceAdd, reduceLT, reduceLeDiff, reduceToNat]
  refine wpc_loop {i : Nat // i ≤ p.slots.length ∧ ∀ j, j < i → slotIs' n w (p.slot j) = false} (fun i => ⟨[(1, .int .i64 n), (2, .int .i64 w), (3, .cp 0 0 0), (7, .int .i64 i.1)], [(0, ⟨7, [plnS p], [], true⟩)], 1⟩) (fun i => p.slots.length - i.1) ⟨0, Nat.zero_le _, fun j hj => absurd hj (by omega)⟩ (Le.of [] (Nat.zero_le _) ?_ ?_ ?_) ?_
  · simp only [eL, eH, eG, leO, Nat.beq, reduceLT]
  · simp only [eL, eH, eG, leO, Nat.beq, reduceLT] <;> rfl
  · simp only [plnS, eL, eH, eG, leO, Nat.beq, reduceLT]
  · rintro ⟨i, hi, hp⟩
    simp only [plnS, hT, eA, Nat.beq, List.toArray, reduceAdd, reduceLT, reduceLeDiff, reduceToNat]
    refine fun _ => ⟨fun h => ?_, fun h => ?_⟩
    · simp only [decide_eq_true_eq] at h
      have hil : i < p.slots.length := by omega
      have hg : ∀ d, (p.slots.map slotE).getD i d = slotE (p.slot i) := fun d => getIn slotE p.slots i d s0 hil
      simp only [hT, hg, slotE, eA, Nat.beq, List.toArray, reduceAdd, reduceLT, reduceLeDiff, reduceToNat]
      (try unfold lim); repeat first | ((with_reducible refine And.intro ?_ ?_); (first | omega | exact ⟨by omega, by omega⟩ | rfl)) | intro _
      have yes : slotIs' n w (p.slot i) = true → true = p.slots.any (slotIs' n w) := fun h => (any_at s0 hil h).symm
      have go : ∀ (tm : List (Nat × AV)), gtm tm 1 = .int .i64 n → gtm tm 2 = .int .i64 w → gtm tm 3 = .cp 0 0 0 → gtm tm 7 = .int .i64 ((i : Int) + 1) → slotIs' n w (p.slot i) = false → ∃ x' : {i : Nat // i ≤ p.slots.length ∧ ∀ j, j < i → slotIs' n w (p.slot j) = false}, p.slots.length - x'.val < p.slots.length - i ∧ Le P 0 ⟨tm, [(0, ⟨7, [plnS p], [], true⟩)], 1⟩ ⟨[(1, .int .i64 n), (2, .int .i64 w), (3, .cp 0 0 0), (7, .int .i64 x'.1)], [(0, ⟨7, [plnS p], [], true⟩)], 1⟩ := by
        intro tm e1 e2 e3 e7 q
        refine ⟨⟨i + 1, hil, upto hp q⟩, by simp only; omega, Le.of [] (Nat.zero_le _) ?_ ?_ ?_⟩
        · simp only [eL, eH, eG, leO, Nat.beq, reduceLT]
        · simp only [e1, e2, e3, e7, eL, eH, eG, leO, Nat.beq, reduceLT]
          omega
        · simp only [plnS, eL, eH, eG, leO, Nat.beq, reduceLT]
      simp only [plnS] at go
      refine ⟨fun q => ⟨fun q2 => ?_, fun q2 => ?_⟩, fun q => ?_⟩
      · rw [yes (by unfold slotIs'; rw [q, q2]; rfl)]
      · (try unfold lim); repeat first | ((with_reducible refine And.intro ?_ ?_); (first | omega | exact ⟨by omega, by omega⟩ | rfl)) | intro _
        refine ⟨fun q3 => ?_, fun q3 => ?_⟩
        · rw [yes (by unfold slotIs'; rw [q, q2, q3]; rfl)]
        · exact ⟨⟨by omega, by omega⟩, go _ rfl rfl rfl rfl (by unfold slotIs'; rw [q, q2, q3]; rfl)⟩
      · exact ⟨⟨by omega, by omega⟩, go _ rfl rfl rfl rfl (by unfold slotIs'; rw [q]; rfl)⟩
    · simp only [decide_eq_false_iff_not] at h
      obtain rfl : i = p.slots.length := by omega
      exact (any_none s0 hp).symm
theorem slotIs_eq (p : VPln) (k : Nat) (w : Int) : p.slots.any (slotIs' k w) = hasSlot p k w := by
  unfold hasSlot
  congr 1
  funext s
  unfold slotIs' slotIs
  rw [decide_eq_false (by omega : ¬(k : Int) < 0), Bool.false_or, Bool.and_comm]
theorem TY_l9Dumb {P : Program} (hP : P = Tryz.prog) : (fldT P 43 0 = some ((0, (false, 1)))) ∧ ((tyT P 3 = some ((false, 1))) ∧ (tyT P 43 = some ((true, 7)))) := by subst hP; refine ⟨?_, ⟨?_, ?_⟩⟩ <;> kernel_rfl
theorem l9Dumb {P : Program} [Known P] (hP : P = Tryz.prog) (p : VPln) (n : Nat) (hn : p.1 = n) (h4 : n ≤ 4) (hs : Sz p) : Fun P 227 [.agg (plnS p)] (.int .i64 (fb n (bad11 p))) := by
  refine fun_of (fn := Tryz.f227) (hP ▸ Tryz.func227) (by kernel_rfl) (by kernel_rfl) (by kernel_rfl) (by kernel_rfl) ?_
  have hT := TY_l9Dumb hP
  have hm : P.follows .mixedOrders = true := by subst hP; kernel_rfl
  have el := @l9Has P _ hP
  clear hP
  intro hl
  clear hl
  simp only [plnS, Tryz.f227, hT, eA, Nat.beq, List.toArray, reduceAdd, reduceLT, reduceLeDiff, reduceToNat]
  refine wpc_loop {i : Nat // i ≤ n ∧ ∀ j, j < i → bad11 p j = false} (fun i => ⟨[(1, .cp 0 0 0), (3, .int .i64 i.1)], [(0, ⟨7, [plnS p], [], true⟩)], 1⟩) (fun i => n - i.1) ⟨0, Nat.zero_le _, fun j hj => absurd hj (by omega)⟩ (Le.of [] (Nat.zero_le _) ?_ ?_ ?_) ?_
  · simp only [eL, eH, eG, leO, Nat.beq, reduceLT]
  · simp only [eL, eH, eG, leO, Nat.beq, reduceLT] <;> rfl
  · simp only [plnS, eL, eH, eG, leO, Nat.beq, reduceLT]
  · rintro ⟨i, hi, hp⟩
    simp only [plnS, hn, hT, eA, Nat.beq, List.toArray, reduceAdd, reduceLT, reduceLeDiff, reduceToNat]
    refine ⟨fun h => ?_, fun h => ?_⟩
    · simp only [decide_eq_true_eq] at h
      have hil : i < n := by omega
      have el := el p hs i (-1)
      rw [slotIs_eq] at el
      simp only [plnS] at el
      simp only [hn] at el
      refine Fun.plain el rfl rfl rfl rfl ?_
      simp only [hT, eA, Nat.beq, List.toArray, reduceAdd, reduceLT, reduceLeDiff, reduceToNat]
      refine ⟨fun q => ?_, fun q => ?_⟩
      · rw [fb_at hil (by unfold bad11; simpa using q) hp]
      · have q : bad11 p i = false := by unfold bad11; simpa using q
        refine ⟨⟨by omega, by omega⟩, ⟨i + 1, hil, upto hp q⟩, by simp only; omega, Le.of [] (Nat.zero_le _) ?_ ?_ ?_⟩ <;> simp only [plnS, eL, eH, eG, leO, Nat.beq, reduceLT] <;> omega
    · simp only [decide_eq_false_iff_not] at h
      obtain rfl : i = n := by omega
      (try unfold lim); repeat first | ((with_reducible refine And.intro ?_ ?_); (first | omega | exact ⟨by omega, by omega⟩ | rfl)) | intro _
      rw [fb_none hp]
/-- Where slots are ok, a way's slot is one of the node at which it begins. -/
theorem slot_of {p : VPln} (h10 : ∀ k, k < p.slots.length → bad10 p k = false) (k : Nat) : p.slots.any (slotIs' (-1) k) = hasSlot p (begins p k) k := by
  unfold hasSlot
  rw [Bool.eq_iff_iff, List.any_eq_true, List.any_eq_true]
  refine ⟨fun ⟨s, hs, h⟩ => ⟨s, hs, ?_⟩, fun ⟨s, hs, h⟩ => ⟨s, hs, ?_⟩⟩
  · obtain ⟨j, hj, rfl⟩ := List.getElem_of_mem hs
    have hb := h10 j hj
    have e : p.slot j = p.slots[j] := by simp [List.getElem?_eq_getElem hj]
    unfold bad10 at hb
    rw [e] at hb
    unfold slotIs' at h
    unfold slotIs
    simp only [Bool.and_eq_true, decide_eq_true_eq] at h
    have hw := h.1
    simp only [hw, Bool.or_eq_false_iff, Bool.and_eq_false_iff, Bool.not_eq_false', decide_eq_true_eq] at hb
    rcases hb.2 with hb | hb
    · omega
    · simp [hw, hb.2]
  · unfold slotIs at h
    unfold slotIs'
    simp only [Bool.and_eq_true, decide_eq_true_eq] at h
    simp [h.2]
theorem TY_l9Lost {P : Program} (hP : P = Tryz.prog) : ((fldT P 43 4 = some ((4, (false, 1)))) ∧ (tyT P 40 = some ((false, 1)))) ∧ ((lkT P 40 = 1) ∧ (tyT P 43 = some ((true, 7)))) := by subst hP; refine ⟨⟨?_, ?_⟩, ⟨?_, ?_⟩⟩ <;> kernel_rfl
theorem l9Lost {P : Program} [Known P] (hP : P = Tryz.prog) (p : VPln) (hs : Sz p) (h10 : ∀ k, k < p.slots.length → bad10 p k = false) : Fun P 228 [.agg (plnS p)] (.int .i64 (fb p.ways.length (bad12 p))) := by
  refine fun_of (fn := Tryz.f228) (hP ▸ Tryz.func228) (by kernel_rfl) (by kernel_rfl) (by kernel_rfl) (by kernel_rfl) ?_
  have hT := TY_l9Lost hP
  have hm : P.follows .mixedOrders = true := by subst hP; kernel_rfl
  have el := @l9Has P _ hP
  clear hP
  intro hl
  clear hl
  simp only [plnS, Tryz.f228, hT, eA, Nat.beq, List.toArray, reduceAdd, reduceLT, reduceLeDiff, reduceToNat]
  refine wpc_loop {i : Nat // i ≤ p.ways.length ∧ ∀ j, j < i → bad12 p j = false} (fun i => ⟨[(1, .cp 0 0 0), (3, .int .i64 i.1)], [(0, ⟨7, [plnS p], [], true⟩)], 1⟩) (fun i => p.ways.length - i.1) ⟨0, Nat.zero_le _, fun j hj => absurd hj (by omega)⟩ (Le.of [] (Nat.zero_le _) ?_ ?_ ?_) ?_
  · simp only [eL, eH, eG, leO, Nat.beq, reduceLT]
  · simp only [eL, eH, eG, leO, Nat.beq, reduceLT] <;> rfl
  · simp only [plnS, eL, eH, eG, leO, Nat.beq, reduceLT]
  · rintro ⟨i, hi, hp⟩
    simp only [plnS, hT, eA, Nat.beq, List.toArray, reduceAdd, reduceLT, reduceLeDiff, reduceToNat]
    have hc := hs.w
    refine fun _ => ⟨fun h => ?_, fun h => ?_⟩
    · simp only [decide_eq_true_eq] at h
      have hil : i < p.ways.length := by omega
      have el := el p hs (-1) i
      rw [slot_of h10] at el
      simp only [plnS] at el
      refine Fun.plain el rfl rfl rfl rfl ?_
      simp only [hT, eA, Nat.beq, List.toArray, reduceAdd, reduceLT, reduceLeDiff, reduceToNat]
      refine ⟨fun q => ?_, fun q => ?_⟩
      · rw [fb_at hil (by unfold bad12; simpa using q) hp]
      · have q : bad12 p i = false := by unfold bad12; simpa using q
        refine ⟨⟨by omega, by omega⟩, ⟨i + 1, hil, upto hp q⟩, by simp only; omega, Le.of [] (Nat.zero_le _) ?_ ?_ ?_⟩ <;> simp only [plnS, eL, eH, eG, leO, Nat.beq, reduceLT] <;> omega
    · simp only [decide_eq_false_iff_not] at h
      obtain rfl : i = p.ways.length := by omega
      (try unfold lim); repeat first | ((with_reducible refine And.intro ?_ ?_); (first | omega | exact ⟨by omega, by omega⟩ | rfl)) | intro _
      rw [fb_none hp]
end Go.Proofs.YtjlmfcddbcoimaaGreat.C
