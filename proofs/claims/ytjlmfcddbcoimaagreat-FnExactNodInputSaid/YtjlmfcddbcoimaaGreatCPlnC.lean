/- The checks of a plan, by the program's text: what each asks of one place. -/
import Derived.Test.YtjlmfcddbcoimaaGreatCPlnB
set_option maxRecDepth 100000
set_option linter.unusedSimpArgs false
set_option linter.unusedVariables false
namespace Go.Proofs.YtjlmfcddbcoimaaGreat.C
open Go Go.Av Go.Proofs
open Nat (reduceAdd reduceLT reduceLeDiff reduceSub)
open Int (reduceToNat)
abbrev VPln.cell (p : VPln) (k : Nat) : VCell := p.cells.getD k c0
abbrev VPln.way (p : VPln) (k : Nat) : VWay := p.ways.getD k w0
abbrev VPln.slot (p : VPln) (k : Nat) : VSlot := p.slots.getD k s0
abbrev VPln.turn (p : VPln) (k : Nat) : List Int := p.turns.getD k []
def bad5 (p : VPln) (k : Nat) : Bool := !has (p.cell k).1 p.1 || (!lblOk (p.cell k).2.1.1 (p.cell k).2.1.2.1 || !codOk (p.cell k).2.2.2.1)
def bad7 (p : VPln) (k : Nat) : Bool := !has (p.way k).1 p.cells.length || (!has (p.way k).2.1 p.cells.length || (decide ((p.way k).1 = (p.way k).2.1) || (decide ((p.way k).2.2.1 < 1) || (decide (4 < (p.way k).2.2.1) ||
  (!grdOk (p.way k).2.2.2.2.1 || (!(p.way k).2.2.2.1 && decide (0 < ((p.way k).2.2.2.2.1.length : Int))))))))
def bad8 (p : VPln) (k : Nat) : Bool := !(p.way k).2.2.2.1 && !lblFl (p.cell (p.way k).1.toNat).2.1.1 (p.cell (p.way k).1.toNat).2.1.2.1 (p.cell (p.way k).2.1.toNat).2.1.1 (p.cell (p.way k).2.1.toNat).2.1.2.1
def begins (p : VPln) (w : Int) : Int := (p.cell (p.way w.toNat).1.toNat).1
def bad10 (p : VPln) (k : Nat) : Bool := !has (p.slot k).1 p.1 || (!decide ((p.slot k).2.1 = -1) && (!has (p.slot k).2.1 p.ways.length || !decide (begins p (p.slot k).2.1 = (p.slot k).1)))
def slotIs (n w : Int) (s : VSlot) : Bool := decide (s.1 = n) && decide (s.2.1 = w)
def hasSlot (p : VPln) (n w : Int) : Bool := p.slots.any (slotIs n w)
def bad11 (p : VPln) (k : Nat) : Bool := !hasSlot p k (-1)
def bad12 (p : VPln) (k : Nat) : Bool := !hasSlot p (begins p k) k
def turnBad (p : VPln) (k : Nat) (c : Int) : Bool := !decide (c = -1) && (!has c p.cells.length || !decide ((p.cell c.toNat).1 = k))
def bad13 (p : VPln) (k : Nat) : Bool := !decide (((p.turn k).length : Int) = p.slots.length) || (p.turn k).any (turnBad p k)
def isK (k : Nat) (c : Int) : Bool := decide (c = k)
def bad14 (p : VPln) (k : Nat) : Bool := !(p.turn (p.cell k).1.toNat).any (isK k)
def ordBad (p : VPln) (k : Nat) (o : VOrd) : Bool := (decide (o.1 = 9) || decide (o.1 = 10)) && (!has o.2.1 p.ways.length || ((decide (o.1 = 9) && !decide ((p.way o.2.1.toNat).1 = k)) || (decide (o.1 = 10) && !decide ((p.way o.2.1.toNat).2.1 = k))))
def bad15 (p : VPln) (k : Nat) : Bool := (p.cell k).2.2.2.1.any (ordBad p k)
abbrev PV (p : VPln) : AV := .rp [.rp (plnS p)]
theorem any_at {α : Type} {l : List α} {f : α → Bool} (d : α) {j : Nat} (hj : j < l.length) (h : f (l.getD j d) = true) : l.any f = true := by
  rw [List.any_eq_true]
  rw [List.getD_eq_getElem?_getD, List.getElem?_eq_getElem hj] at h
  exact ⟨_, List.getElem_mem hj, h⟩
theorem any_none {α : Type} {l : List α} {f : α → Bool} (d : α) (h : ∀ j, j < l.length → f (l.getD j d) = false) : l.any f = false := by
  rw [List.any_eq_false]
  intro x hx
  obtain ⟨j, hj, rfl⟩ := List.getElem_of_mem hx
  have := h j hj
  rw [List.getD_eq_getElem?_getD, List.getElem?_eq_getElem hj] at this
  simpa using this
theorem has_iff {x n : Int} (h : has x n = true) : 0 ≤ x ∧ x < n := by
  unfold has at h
  simpa using h
theorem TY_cellsC {P : Program} (hP : P = Tryz.prog) : (((P.follows .mixedOrders = true) ∧ ((fldT P 268 0 = some ((0, (false, 1)))) ∧ (tyT P 105 = some ((false, 1))))) ∧ (((fldT P 43 3 = some ((3, (false, 1)))) ∧ (tyT P 39 = some ((false, 1)))) ∧ ((elT P 39 = some ((true, (5, 56)))) ∧ (tyT P 156 = some ((true, 5)))))) ∧ ((((zeroT P 156 = some (((.int .i64 0) :: ((.int .i64 0) :: ((.int .i64 0) :: ((.bool false) :: (.nils :: []))))))) ∧ (fldT P 156 0 = some ((0, (false, 1))))) ∧ ((tyT P 3 = some ((false, 1))) ∧ (fldT P 43 0 = some ((0, (false, 1)))))) ∧ (((fldT P 156 1 = some ((1, (true, 2)))) ∧ (tyT P 153 = some ((true, 2)))) ∧ ((fldT P 156 3 = some ((4, (false, 1)))) ∧ (tyT P 154 = some ((false, 1)))))) := by subst hP; refine ⟨⟨⟨?_, ⟨?_, ?_⟩⟩, ⟨⟨?_, ?_⟩, ⟨?_, ?_⟩⟩⟩, ⟨⟨⟨?_, ?_⟩, ⟨?_, ?_⟩⟩, ⟨⟨?_, ?_⟩, ⟨?_, ?_⟩⟩⟩⟩ <;> kernel_rfl
theorem cellsC {P : Program} [Known P] (hP : P = Tryz.prog) (p : VPln) (k : Nat) (hk : k < p.cells.length) : Fun P 288 [.int .i64 k, PV p] (.bool (bad5 p k)) := by
  refine fun_of (fn := Tryz.f288) (hP ▸ Tryz.func288) (by kernel_rfl) (by kernel_rfl) (by kernel_rfl) (by kernel_rfl) ?_
  have hT := TY_cellsC hP
  have hm : P.follows .mixedOrders = true := by subst hP; kernel_rfl
  have ha := @plnHas P _ hP
  have lo := @lblOkI P _ hP
  have co := @codOkI P _ hP
  clear hP
  intro hl
  clear hl
  have hg : ∀ d, (p.cells.map cellS).getD k d = cellS (p.cell k) := fun d => getIn cellS p.cells k d c0 hk
  simp only [PV, plnS, hg, cellS, Tryz.f288, hT, eA, Nat.beq, List.toArray, reduceAdd, reduceLT, reduceLeDiff, reduceToNat]
  (try unfold lim); repeat first | ((with_reducible refine And.intro ?_ ?_); (first | omega | exact ⟨by omega, by omega⟩ | rfl)) | intro _
  unfold bad5
  clear hg
  generalize p.cell k = c at *
  refine wpc_read [0, 1, 2, 3, 4, 5, 6, 7, 8, 9, 10, 11, 12, 13, 14, 15, 16, 17, 18, 19, 20, 21] hm (by kernel_rfl) ?_
  simp only [hT, eT, ↓If_lit, reduceSub, reduceCtorEq, eA, Nat.beq, List.toArray, reduceAdd, reduceLT, reduceLeDiff, reduceToNat]
  repeat' first
    | with_reducible refine If.mk (fun _ => ?_) (fun _ => ?_)
    | (with_reducible refine Eq.symm ?_; clear hT hm ha lo co; first | (simp only [*, Bool.true_or, Bool.or_true, Bool.false_or, Bool.or_false, Bool.true_and, Bool.false_and, Bool.and_true, Bool.and_false, Bool.not_true, Bool.not_false]; done) | (simp_all; done))
    | (refine Fun.pcall (ha _ _) (by exact rfl) rfl rfl rfl rfl ?_; simp only [hT, nneg, decide_true, decide_false, ↓If_lit, Int.cast_ofNat_Int, Int.reduceLT, Int.reduceLE, eT, ↓If_lit, reduceSub, reduceCtorEq, eA, Nat.beq, List.toArray, reduceAdd, reduceLT, reduceLeDiff, reduceToNat]; (try unfold lim); repeat first | ((with_reducible refine And.intro ?_ ?_); (first | omega | exact ⟨by omega, by omega⟩ | rfl)) | intro _)
    | (refine Fun.pcall (lo _ _) (by exact rfl) rfl rfl rfl rfl ?_; simp only [hT, nneg, decide_true, decide_false, ↓If_lit, Int.cast_ofNat_Int, Int.reduceLT, Int.reduceLE, eT, ↓If_lit, reduceSub, reduceCtorEq, eA, Nat.beq, List.toArray, reduceAdd, reduceLT, reduceLeDiff, reduceToNat]; (try unfold lim); repeat first | ((with_reducible refine And.intro ?_ ?_); (first | omega | exact ⟨by omega, by omega⟩ | rfl)) | intro _)
    | (refine Fun.pcall (co _) (by exact rfl) rfl rfl rfl rfl ?_; simp only [hT, nneg, decide_true, decide_false, ↓If_lit, Int.cast_ofNat_Int, Int.reduceLT, Int.reduceLE, eT, ↓If_lit, reduceSub, reduceCtorEq, eA, Nat.beq, List.toArray, reduceAdd, reduceLT, reduceLeDiff, reduceToNat]; (try unfold lim); repeat first | ((with_reducible refine And.intro ?_ ?_); (first | omega | exact ⟨by omega, by omega⟩ | rfl)) | intro _)
    | with_reducible refine And.intro (by omega) ?_
    | intro _
theorem TY_waysC {P : Program} (hP : P = Tryz.prog) : ((((P.follows .mixedOrders = true) ∧ (fldT P 268 0 = some ((0, (false, 1))))) ∧ ((tyT P 105 = some ((false, 1))) ∧ ((fldT P 43 4 = some ((4, (false, 1)))) ∧ (tyT P 40 = some ((false, 1)))))) ∧ (((elT P 40 = some ((true, (5, 56)))) ∧ (tyT P 160 = some ((true, 5)))) ∧ ((zeroT P 160 = some (((.int .i64 0) :: ((.int .i64 0) :: ((.int .i64 0) :: ((.bool false) :: (.nils :: []))))))) ∧ ((fldT P 160 0 = some ((0, (false, 1)))) ∧ (tyT P 3 = some ((false, 1))))))) ∧ ((((fldT P 43 3 = some ((3, (false, 1)))) ∧ (tyT P 39 = some ((false, 1)))) ∧ ((lkT P 39 = 1) ∧ ((fldT P 160 1 = some ((1, (false, 1)))) ∧ (fldT P 160 2 = some ((2, (false, 1))))))) ∧ (((fldT P 160 4 = some ((4, (false, 1)))) ∧ (tyT P 158 = some ((false, 1)))) ∧ ((fldT P 160 3 = some ((3, (false, 1)))) ∧ ((tyT P 4 = some ((false, 1))) ∧ (lkT P 158 = 1))))) := by subst hP; refine ⟨⟨⟨⟨?_, ?_⟩, ⟨?_, ⟨?_, ?_⟩⟩⟩, ⟨⟨?_, ?_⟩, ⟨?_, ⟨?_, ?_⟩⟩⟩⟩, ⟨⟨⟨?_, ?_⟩, ⟨?_, ⟨?_, ?_⟩⟩⟩, ⟨⟨?_, ?_⟩, ⟨?_, ⟨?_, ?_⟩⟩⟩⟩⟩ <;> kernel_rfl
theorem waysC {P : Program} [Known P] (hP : P = Tryz.prog) (p : VPln) (k : Nat) (hk : k < p.ways.length) (hcl : p.cells.length ≤ 1048576) (hgl : (p.way k).2.2.2.2.1.length ≤ 1048576) : Fun P 291 [.int .i64 k, PV p] (.bool (bad7 p k)) := by
  refine fun_of (fn := Tryz.f291) (hP ▸ Tryz.func291) (by kernel_rfl) (by kernel_rfl) (by kernel_rfl) (by kernel_rfl) ?_
  have hT := TY_waysC hP
  have hm : P.follows .mixedOrders = true := by subst hP; kernel_rfl
  have ha := @plnHas P _ hP
  have go := @grdOkI P _ hP
  clear hP
  intro hl
  clear hl
  have hg : ∀ d, (p.ways.map wayS).getD k d = wayS (p.way k) := fun d => getIn wayS p.ways k d w0 hk
  simp only [PV, plnS, hg, wayS, Tryz.f291, hT, eA, Nat.beq, List.toArray, reduceAdd, reduceLT, reduceLeDiff, reduceToNat]
  (try unfold lim); repeat first | ((with_reducible refine And.intro ?_ ?_); (first | omega | exact ⟨by omega, by omega⟩ | rfl)) | intro _
  unfold bad7
  clear hg
  generalize p.way k = w at *
  refine wpc_read [0, 1, 2, 3, 4, 5, 6, 7, 8, 9, 10, 11, 12, 13, 14, 15, 16, 17, 18, 19, 20, 21, 22, 23, 24, 25, 26, 27, 28, 29, 30, 31, 32, 33, 34, 35, 36, 37, 38, 39, 40, 41, 42, 43, 44, 45, 46, 47, 48, 49, 50, 51, 52, 53, 54, 55, 56] hm (by kernel_rfl) ?_
  simp only [hT, eT, ↓If_lit, reduceSub, reduceCtorEq, eA, Nat.beq, List.toArray, reduceAdd, reduceLT, reduceLeDiff, reduceToNat]
  (try unfold lim)
  repeat' first
    | with_reducible refine If.mk (fun _ => ?_) (fun _ => ?_)
    | (with_reducible refine Eq.symm ?_; clear hT hm ha go; first | (simp only [*, Bool.true_or, Bool.or_true, Bool.false_or, Bool.or_false, Bool.true_and, Bool.false_and, Bool.and_true, Bool.and_false, Bool.not_true, Bool.not_false]; done) | (simp_all; done))
    | (refine Fun.pcall (ha _ _) (by exact rfl) rfl rfl rfl rfl ?_; simp only [hT, nneg, decide_true, decide_false, ↓If_lit, Int.cast_ofNat_Int, Int.reduceLT, Int.reduceLE, eT, ↓If_lit, reduceSub, reduceCtorEq, eA, Nat.beq, List.toArray, reduceAdd, reduceLT, reduceLeDiff, reduceToNat]; (try unfold lim); repeat first | ((with_reducible refine And.intro ?_ ?_); (first | omega | exact ⟨by omega, by omega⟩ | rfl)) | intro _)
    | (refine Fun.pcall (go _) (by exact rfl) rfl rfl rfl rfl ?_; simp only [hT, nneg, decide_true, decide_false, ↓If_lit, Int.cast_ofNat_Int, Int.reduceLT, Int.reduceLE, eT, ↓If_lit, reduceSub, reduceCtorEq, eA, Nat.beq, List.toArray, reduceAdd, reduceLT, reduceLeDiff, reduceToNat]; (try unfold lim); repeat first | ((with_reducible refine And.intro ?_ ?_); (first | omega | exact ⟨by omega, by omega⟩ | rfl)) | intro _)
    | with_reducible refine And.intro (by omega) ?_
    | intro _
theorem TY_flowsC {P : Program} (hP : P = Tryz.prog) : ((((P.follows .mixedOrders = true) ∧ (fldT P 268 0 = some ((0, (false, 1))))) ∧ ((tyT P 105 = some ((false, 1))) ∧ (fldT P 43 4 = some ((4, (false, 1)))))) ∧ (((tyT P 40 = some ((false, 1))) ∧ (elT P 40 = some ((true, (5, 56))))) ∧ ((tyT P 160 = some ((true, 5))) ∧ ((zeroT P 160 = some (((.int .i64 0) :: ((.int .i64 0) :: ((.int .i64 0) :: ((.bool false) :: (.nils :: []))))))) ∧ (fldT P 160 3 = some ((3, (false, 1)))))))) ∧ ((((tyT P 4 = some ((false, 1))) ∧ (fldT P 43 3 = some ((3, (false, 1))))) ∧ ((tyT P 39 = some ((false, 1))) ∧ (fldT P 160 0 = some ((0, (false, 1)))))) ∧ (((tyT P 3 = some ((false, 1))) ∧ (elT P 39 = some ((true, (5, 56))))) ∧ ((fldT P 156 1 = some ((1, (true, 2)))) ∧ ((tyT P 153 = some ((true, 2))) ∧ (fldT P 160 1 = some ((1, (false, 1)))))))) := by subst hP; refine ⟨⟨⟨⟨?_, ?_⟩, ⟨?_, ?_⟩⟩, ⟨⟨?_, ?_⟩, ⟨?_, ⟨?_, ?_⟩⟩⟩⟩, ⟨⟨⟨?_, ?_⟩, ⟨?_, ?_⟩⟩, ⟨⟨?_, ?_⟩, ⟨?_, ⟨?_, ?_⟩⟩⟩⟩⟩ <;> kernel_rfl
theorem flowsC {P : Program} [Known P] (hP : P = Tryz.prog) (p : VPln) (k : Nat) (hk : k < p.ways.length) (h1 : has (p.way k).1 p.cells.length = true) (h2 : has (p.way k).2.1 p.cells.length = true) : Fun P 293 [.int .i64 k, PV p] (.bool (bad8 p k)) := by
  refine fun_of (fn := Tryz.f293) (hP ▸ Tryz.func293) (by kernel_rfl) (by kernel_rfl) (by kernel_rfl) (by kernel_rfl) ?_
  have hT := TY_flowsC hP
  have hm : P.follows .mixedOrders = true := by subst hP; kernel_rfl
  have fl := @flowsI P _ hP
  clear hP
  intro hl
  clear hl
  have hg : ∀ d, (p.ways.map wayS).getD k d = wayS (p.way k) := fun d => getIn wayS p.ways k d w0 hk
  obtain ⟨h1, h1'⟩ := has_iff h1
  obtain ⟨h2, h2'⟩ := has_iff h2
  have g1 : ∀ d, (p.cells.map cellS).getD (p.way k).1.toNat d = cellS (p.cell (p.way k).1.toNat) := fun d => getIn cellS p.cells _ d c0 (by omega)
  have g2 : ∀ d, (p.cells.map cellS).getD (p.way k).2.1.toNat d = cellS (p.cell (p.way k).2.1.toNat) := fun d => getIn cellS p.cells _ d c0 (by omega)
  simp only [PV, plnS, hg, wayS, Tryz.f293, hT, eA, Nat.beq, List.toArray, reduceAdd, reduceLT, reduceLeDiff, reduceToNat]
  (try unfold lim); repeat first | ((with_reducible refine And.intro ?_ ?_); (first | omega | exact ⟨by omega, by omega⟩ | rfl)) | intro _
  unfold bad8
  refine wpc_read [0, 1, 2, 3, 4, 5, 6, 7, 8, 9, 10, 11, 12, 13, 14, 15, 16, 17, 18, 19, 20, 21, 22, 23, 24, 25, 26, 27] hm (by kernel_rfl) ?_
  simp only [hT, g1, g2, cellS, eT, ↓If_lit, reduceSub, reduceCtorEq, eA, Nat.beq, List.toArray, reduceAdd, reduceLT, reduceLeDiff, reduceToNat]
  clear hg g1 g2
  generalize p.cell (p.way k).1.toNat = c at *
  generalize p.cell (p.way k).2.1.toNat = c' at *
  generalize p.way k = w at *
  repeat' first
    | with_reducible refine If.mk (fun _ => ?_) (fun _ => ?_)
    | (with_reducible refine Eq.symm ?_; clear hT hm fl; first | (simp only [*, Bool.true_or, Bool.or_true, Bool.false_or, Bool.or_false, Bool.true_and, Bool.false_and, Bool.and_true, Bool.and_false, Bool.not_true, Bool.not_false]; done) | (simp_all; done))
    | (refine Fun.pcall (fl _ _ _ _) (by exact rfl) rfl rfl rfl rfl ?_; simp only [hT, nneg, decide_true, decide_false, ↓If_lit, Int.cast_ofNat_Int, Int.reduceLT, Int.reduceLE, eT, ↓If_lit, reduceSub, reduceCtorEq, eA, Nat.beq, List.toArray, reduceAdd, reduceLT, reduceLeDiff, reduceToNat]; (try unfold lim); repeat first | ((with_reducible refine And.intro ?_ ?_); (first | omega | exact ⟨by omega, by omega⟩ | rfl)) | intro _)
    | with_reducible refine And.intro (by omega) ?_
    | intro _
theorem TY_beginsI {P : Program} (hP : P = Tryz.prog) : (((P.follows .mixedOrders = true) ∧ (fldT P 43 3 = some ((3, (false, 1))))) ∧ ((tyT P 39 = some ((false, 1))) ∧ ((fldT P 43 4 = some ((4, (false, 1)))) ∧ (tyT P 40 = some ((false, 1)))))) ∧ (((elT P 40 = some ((true, (5, 56)))) ∧ (fldT P 160 0 = some ((0, (false, 1))))) ∧ ((tyT P 3 = some ((false, 1))) ∧ ((elT P 39 = some ((true, (5, 56)))) ∧ (fldT P 156 0 = some ((0, (false, 1))))))) := by subst hP; refine ⟨⟨⟨?_, ?_⟩, ⟨?_, ⟨?_, ?_⟩⟩⟩, ⟨⟨?_, ?_⟩, ⟨?_, ⟨?_, ?_⟩⟩⟩⟩ <;> kernel_rfl
theorem beginsI {P : Program} [Known P] (hP : P = Tryz.prog) (p : VPln) (w : Int) (hw : has w p.ways.length = true) (h1 : has (p.way w.toNat).1 p.cells.length = true) : Fun P 116 [.rp (plnS p), .int .i64 w] (.int .i64 (begins p w)) := by
  refine fun_of (fn := Tryz.f116) (hP ▸ Tryz.func116) (by kernel_rfl) (by kernel_rfl) (by kernel_rfl) (by kernel_rfl) ?_
  have hT := TY_beginsI hP
  have hm : P.follows .mixedOrders = true := by subst hP; kernel_rfl
  clear hP
  intro hl
  clear hl
  obtain ⟨h0, h0'⟩ := has_iff hw
  obtain ⟨h1, h1'⟩ := has_iff h1
  have hg : ∀ d, (p.ways.map wayS).getD w.toNat d = wayS (p.way w.toNat) := fun d => getIn wayS p.ways _ d w0 (by omega)
  have g1 : ∀ d, (p.cells.map cellS).getD (p.way w.toNat).1.toNat d = cellS (p.cell (p.way w.toNat).1.toNat) := fun d => getIn cellS p.cells _ d c0 (by omega)
  simp only [plnS, Tryz.f116, hT, eA, Nat.beq, List.toArray, reduceAdd, reduceLT, reduceLeDiff, reduceToNat]
  refine wpc_read [0, 1, 2, 3, 4, 5, 6, 7, 8, 9, 10, 11, 12, 13, 14, 15] hm (by kernel_rfl) ?_
  simp only [hT, hg, wayS, g1, cellS, eT, ↓If_lit, reduceSub, reduceCtorEq, eA, Nat.beq, List.toArray, reduceAdd, reduceLT, reduceLeDiff, reduceToNat]
  (try unfold lim); repeat first | ((with_reducible refine And.intro ?_ ?_); (first | omega | exact ⟨by omega, by omega⟩ | rfl)) | intro _
  rfl
theorem TY_slotsC {P : Program} (hP : P = Tryz.prog) : (((P.follows .mixedOrders = true) ∧ ((fldT P 268 0 = some ((0, (false, 1)))) ∧ (tyT P 105 = some ((false, 1))))) ∧ (((fldT P 43 5 = some ((5, (false, 1)))) ∧ (tyT P 41 = some ((false, 1)))) ∧ ((elT P 41 = some ((true, (2, 16)))) ∧ (tyT P 208 = some ((true, 2)))))) ∧ ((((zeroT P 208 = some (((.int .i64 0) :: ((.int .i64 0) :: [])))) ∧ (fldT P 208 0 = some ((0, (false, 1))))) ∧ ((tyT P 3 = some ((false, 1))) ∧ (fldT P 43 0 = some ((0, (false, 1)))))) ∧ (((fldT P 208 1 = some ((1, (false, 1)))) ∧ (fldT P 43 4 = some ((4, (false, 1))))) ∧ ((tyT P 40 = some ((false, 1))) ∧ (lkT P 40 = 1)))) := by subst hP; refine ⟨⟨⟨?_, ⟨?_, ?_⟩⟩, ⟨⟨?_, ?_⟩, ⟨?_, ?_⟩⟩⟩, ⟨⟨⟨?_, ?_⟩, ⟨?_, ?_⟩⟩, ⟨⟨?_, ?_⟩, ⟨?_, ?_⟩⟩⟩⟩ <;> kernel_rfl
theorem slotsC {P : Program} [Known P] (hP : P = Tryz.prog) (p : VPln) (k : Nat) (hk : k < p.slots.length) (hwl : p.ways.length ≤ 1048576) (hcl : ∀ j : Nat, j < p.ways.length → has (p.way j).1 p.cells.length = true) : Fun P 295 [.int .i64 k, PV p] (.bool (bad10 p k)) := by
  refine fun_of (fn := Tryz.f295) (hP ▸ Tryz.func295) (by kernel_rfl) (by kernel_rfl) (by kernel_rfl) (by kernel_rfl) ?_
  have hT := TY_slotsC hP
  have hm : P.follows .mixedOrders = true := by subst hP; kernel_rfl
  have ha := @plnHas P _ hP
  have be := @beginsI P _ hP
  clear hP
  intro hl
  clear hl
  have hg : ∀ d, (p.slots.map slotE).getD k d = slotE (p.slot k) := fun d => getIn slotE p.slots k d s0 hk
  have be := fun w hw => be p w hw (by have := has_iff hw; exact hcl _ (by omega))
  simp only [plnS] at be
  simp only [PV, plnS, hg, slotE, Tryz.f295, hT, eA, Nat.beq, List.toArray, reduceAdd, reduceLT, reduceLeDiff, reduceToNat]
  (try unfold lim); repeat first | ((with_reducible refine And.intro ?_ ?_); (first | omega | exact ⟨by omega, by omega⟩ | rfl)) | intro _
  unfold bad10
  clear hg
  generalize p.slot k = s at *
  refine wpc_read [0, 1, 2, 3, 4, 5, 6, 7, 8] hm (by kernel_rfl) ?_
  simp only [hT, eT, ↓If_lit, reduceSub, reduceCtorEq, eA, Nat.beq, List.toArray, reduceAdd, reduceLT, reduceLeDiff, reduceToNat]
  refine Fun.pcall (ha _ _) (by exact rfl) rfl rfl rfl rfl ?_; simp only [hT, nneg, decide_true, decide_false, ↓If_lit, Int.cast_ofNat_Int, Int.reduceLT, Int.reduceLE, eT, ↓If_lit, reduceSub, reduceCtorEq, eA, Nat.beq, List.toArray, reduceAdd, reduceLT, reduceLeDiff, reduceToNat]; (try unfold lim); repeat first | ((with_reducible refine And.intro ?_ ?_); (first | omega | exact ⟨by omega, by omega⟩ | rfl)) | intro _
  refine ⟨fun q => by rw [q]; rfl, fun q => ?_⟩
  refine ⟨fun q2 => by rw [q, q2]; rfl, fun q2 => ?_⟩
  refine wpc_read [0, 1, 2, 3, 4, 5, 6, 7, 8, 9, 10, 11, 12, 13, 14, 15, 16, 17, 18, 19, 20] hm (by kernel_rfl) ?_
  simp only [hT, eT, ↓If_lit, reduceSub, reduceCtorEq, eA, Nat.beq, List.toArray, reduceAdd, reduceLT, reduceLeDiff, reduceToNat]
  (try unfold lim); repeat first | ((with_reducible refine And.intro ?_ ?_); (first | omega | exact ⟨by omega, by omega⟩ | rfl)) | intro _
  refine Fun.pcall (ha _ _) (by exact rfl) rfl rfl rfl rfl ?_; simp only [hT, nneg, decide_true, decide_false, ↓If_lit, Int.cast_ofNat_Int, Int.reduceLT, Int.reduceLE, eT, ↓If_lit, reduceSub, reduceCtorEq, eA, Nat.beq, List.toArray, reduceAdd, reduceLT, reduceLeDiff, reduceToNat]; (try unfold lim); repeat first | ((with_reducible refine And.intro ?_ ?_); (first | omega | exact ⟨by omega, by omega⟩ | rfl)) | intro _
  refine ⟨fun q3 => by rw [q, q2, q3]; rfl, fun q3 => ?_⟩
  refine Fun.pcall (be _ (by simpa using q3)) (by exact rfl) rfl rfl rfl rfl ?_; simp only [hT, nneg, decide_true, decide_false, ↓If_lit, Int.cast_ofNat_Int, Int.reduceLT, Int.reduceLE, eT, ↓If_lit, reduceSub, reduceCtorEq, eA, Nat.beq, List.toArray, reduceAdd, reduceLT, reduceLeDiff, reduceToNat]; (try unfold lim); repeat first | ((with_reducible refine And.intro ?_ ?_); (first | omega | exact ⟨by omega, by omega⟩ | rfl)) | intro _
  rw [q, q2, q3]; rfl
theorem TY_hasSlotI {P : Program} (hP : P = Tryz.prog) : (((fldT P 268 0 = some ((0, (false, 1)))) ∧ (tyT P 105 = some ((false, 1)))) ∧ ((fldT P 43 5 = some ((5, (false, 1)))) ∧ ((tyT P 41 = some ((false, 1))) ∧ (lkT P 41 = 1)))) ∧ (((elT P 41 = some ((true, (2, 16)))) ∧ ((tyT P 208 = some ((true, 2))) ∧ (zeroT P 208 = some (((.int .i64 0) :: ((.int .i64 0) :: [])))))) ∧ ((fldT P 208 0 = some ((0, (false, 1)))) ∧ ((tyT P 3 = some ((false, 1))) ∧ (fldT P 208 1 = some ((1, (false, 1))))))) := by subst hP; refine ⟨⟨⟨?_, ?_⟩, ⟨?_, ⟨?_, ?_⟩⟩⟩, ⟨⟨?_, ⟨?_, ?_⟩⟩, ⟨?_, ⟨?_, ?_⟩⟩⟩⟩ <;> kernel_rfl
theorem hasSlotI {P : Program} [Known P] (hP : P = Tryz.prog) (p : VPln) (hs : p.slots.length ≤ 1048576) (n w : Int) : Fun P 297 [.agg [.rp (plnS p)], .int .i64 n, .int .i64 w] (.bool (hasSlot p n w)) := by
  refine fun_of (fn := Tryz.f297) (hP ▸ Tryz.func297) (by kernel_rfl) (by kernel_rfl) (by kernel_rfl) (by kernel_rfl) ?_
  have hT := TY_hasSlotI hP
  clear hP
  intro hl
  clear hl
  simp only [plnS, Tryz.f297, hT, eA, Nat.beq, List.toArray, reduceAdd, reduceLT, reduceLeDiff, reduceToNat]
  intro _
  refine wpc_loop {i : Nat // i ≤ p.slots.length ∧ ∀ j, j < i → slotIs n w (p.slot j) = false} (fun i => ⟨[(1, .int .i64 n), (2, .int .i64 w), (13, .sl 2 (p.slots.map slotE) sZ), (14, .int .i64 p.slots.length), (15, .int .i64 i.1)], [], 0⟩) (fun i => p.slots.length - i.1) ⟨0, Nat.zero_le _, fun j hj => absurd hj (by omega)⟩ (Le.of [] (Nat.zero_le _) ?_ ?_ ?_) ?_
  · simp only [eL, eH, eG, leO, Nat.beq, reduceLT]
  · simp only [eL, eH, eG, leO, Nat.beq, reduceLT] <;> rfl
  · simp only [eL, eH, eG, leO, Nat.beq, reduceLT]
  · rintro ⟨i, hi, hp⟩
    simp only [hT, eA, Nat.beq, List.toArray, reduceAdd, reduceLT, reduceLeDiff, reduceToNat]
    refine ⟨fun h => ?_, fun h => ?_⟩
    · simp only [decide_eq_true_eq] at h
      have hil : i < p.slots.length := by omega
      have hg : ∀ d, (p.slots.map slotE).getD i d = slotE (p.slot i) := fun d => getIn slotE p.slots i d s0 hil
      simp only [hT, hg, slotE, eA, Nat.beq, List.toArray, reduceAdd, reduceLT, reduceLeDiff, reduceToNat]
      (try unfold lim); repeat first | ((with_reducible refine And.intro ?_ ?_); (first | omega | exact ⟨by omega, by omega⟩ | rfl)) | intro _
      have yes : slotIs n w (p.slot i) = true → true = hasSlot p n w := fun h => (any_at s0 hil h).symm
      have no : slotIs n w (p.slot i) = false → ∃ x' : {i : Nat // i ≤ p.slots.length ∧ ∀ j, j < i → slotIs n w (p.slot j) = false}, x'.val = i + 1 := fun h => ⟨⟨i + 1, hil, upto hp h⟩, rfl⟩
      unfold slotIs at yes no
      refine ⟨fun q => ⟨fun q2 => yes (by rw [q, q2]; rfl), fun q2 => ?_⟩, fun q => ?_⟩
      · obtain ⟨x', hx⟩ := no (by rw [q, q2]; rfl)
        refine ⟨⟨by omega, by omega⟩, x', by omega, Le.of [] (Nat.zero_le _) ?_ ?_ ?_⟩ <;> simp only [eL, eH, eG, leO, Nat.beq, reduceLT] <;> omega
      · obtain ⟨x', hx⟩ := no (by rw [q]; rfl)
        refine ⟨⟨by omega, by omega⟩, x', by omega, Le.of [] (Nat.zero_le _) ?_ ?_ ?_⟩ <;> simp only [eL, eH, eG, leO, Nat.beq, reduceLT] <;> omega
    · simp only [decide_eq_false_iff_not] at h
      obtain rfl : i = p.slots.length := by omega
      exact (any_none s0 hp).symm
theorem TY_hellosC {P : Program} (hP : P = Tryz.prog) : tyT P 268 = some ((true, 1)) := by subst hP; kernel_rfl
theorem hellosC {P : Program} [Known P] (hP : P = Tryz.prog) (p : VPln) (k : Nat) (hs : p.slots.length ≤ 1048576) : Fun P 296 [.int .i64 k, PV p] (.bool (bad11 p k)) := by
  refine fun_of (fn := Tryz.f296) (hP ▸ Tryz.func296) (by kernel_rfl) (by kernel_rfl) (by kernel_rfl) (by kernel_rfl) ?_
  have hT := TY_hellosC hP
  have hm : P.follows .mixedOrders = true := by subst hP; kernel_rfl
  have hs_ := @hasSlotI P _ hP
  clear hP
  intro hl
  clear hl
  have hs_ := hs_ p hs k (-1)
  simp only [PV, Tryz.f296, hT, eA, Nat.beq, List.toArray, reduceAdd, reduceLT, reduceLeDiff, reduceToNat]
  refine Fun.plain (hs_) rfl rfl rfl rfl ?_; simp only [hT, eN, ↓If_lit, Int.reduceLT, Int.reduceLE, eA, Nat.beq, List.toArray, reduceAdd, reduceLT, reduceLeDiff, reduceToNat]; (try unfold lim); repeat first | ((with_reducible refine And.intro ?_ ?_); (first | omega | exact ⟨by omega, by omega⟩ | rfl)) | intro _
  rfl
theorem TY_waySlotsC {P : Program} (hP : P = Tryz.prog) : ((P.follows .mixedOrders = true) ∧ (tyT P 268 = some ((true, 1)))) ∧ ((fldT P 268 0 = some ((0, (false, 1)))) ∧ (tyT P 105 = some ((false, 1)))) := by subst hP; refine ⟨⟨?_, ?_⟩, ⟨?_, ?_⟩⟩ <;> kernel_rfl
theorem waySlotsC {P : Program} [Known P] (hP : P = Tryz.prog) (p : VPln) (k : Nat) (hk : k < p.ways.length) (hs : p.slots.length ≤ 1048576) (h1 : has (p.way k).1 p.cells.length = true) : Fun P 298 [.int .i64 k, PV p] (.bool (bad12 p k)) := by
  refine fun_of (fn := Tryz.f298) (hP ▸ Tryz.func298) (by kernel_rfl) (by kernel_rfl) (by kernel_rfl) (by kernel_rfl) ?_
  have hT := TY_waySlotsC hP
  have hm : P.follows .mixedOrders = true := by subst hP; kernel_rfl
  have hs_ := @hasSlotI P _ hP
  have be := @beginsI P _ hP
  clear hP
  intro hl
  clear hl
  have be := be p k (by unfold has; simp; omega) h1
  have hs_ := fun n => hs_ p hs n k
  simp only [PV, Tryz.f298, hT, eA, Nat.beq, List.toArray, reduceAdd, reduceLT, reduceLeDiff, reduceToNat]
  refine wpc_read [0, 1, 2, 3, 4, 5, 6, 7, 8] hm (by kernel_rfl) ?_
  simp only [hT, eT, ↓If_lit, reduceSub, reduceCtorEq, eA, Nat.beq, List.toArray, reduceAdd, reduceLT, reduceLeDiff, reduceToNat]
  refine Fun.pcall (be) (by exact rfl) rfl rfl rfl rfl ?_; simp only [hT, nneg, decide_true, decide_false, ↓If_lit, Int.cast_ofNat_Int, Int.reduceLT, Int.reduceLE, eT, ↓If_lit, reduceSub, reduceCtorEq, eA, Nat.beq, List.toArray, reduceAdd, reduceLT, reduceLeDiff, reduceToNat]; (try unfold lim); repeat first | ((with_reducible refine And.intro ?_ ?_); (first | omega | exact ⟨by omega, by omega⟩ | rfl)) | intro _
  refine Fun.pcall (hs_ _) (by exact rfl) rfl rfl rfl rfl ?_; simp only [hT, nneg, decide_true, decide_false, ↓If_lit, Int.cast_ofNat_Int, Int.reduceLT, Int.reduceLE, eT, ↓If_lit, reduceSub, reduceCtorEq, eA, Nat.beq, List.toArray, reduceAdd, reduceLT, reduceLeDiff, reduceToNat]; (try unfold lim); repeat first | ((with_reducible refine And.intro ?_ ?_); (first | omega | exact ⟨by omega, by omega⟩ | rfl)) | intro _
  rfl
end Go.Proofs.YtjlmfcddbcoimaaGreat.C
