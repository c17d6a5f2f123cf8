/- A byte for a cell of a node, by both texts. -/
import Derived.Test.YtjlmfcddbcoimaaGreatCInpA
import Derived.Test.YtjlmfcddbcoimaaGreatCCopN
import Derived.Test.YtjlmfcddbcoimaaGreatCNodK
import Derived.Test.YtjlmfcddbcoimaaGreatCNodF
set_option maxRecDepth 100000
set_option maxHeartbeats 4000000
set_option linter.unusedSimpArgs false
set_option linter.unusedVariables false
namespace Go.Proofs.YtjlmfcddbcoimaaGreat.C
open Go Go.Av Go.Proofs
open Nat (reduceAdd reduceLT reduceLeDiff reduceSub)
open Int (reduceToNat)
def setCel (n : VNod) (k : Nat) (c : VCel) : VNod := (n.up, n.boot, n.hello, n.cells.set k c, n.out, n.inn, n.outs, n.inns, n.heard, ())
def inpB (p : VPln) (n : VNod) (a d v : Int) : Bool := n.up && (byI v && (has d p.cells.length && decide ((p.cell d.toNat).1 = a)))
def inputK (p : VPln) (n : VNod) (a d v : Int) : VNod := bif inpB p n a d v then setCel n d.toNat (celIn (n.cell d.toNat) v) else n
def inputN (p : VPln) (n : VNod) (a d v : Int) : VNod := bif okN p n a then inputK p n a d v else nod0
theorem npMap {α : Type} (f : α → List AV) (hf : ∀ x, npL (f x) = true) (l : List α) : ∀ r ∈ l.map f, npL r = true := fun r hr => by
  obtain ⟨x, _, rfl⟩ := List.mem_map.1 hr
  exact hf x
theorem npCel (x : VCel) : npL (celO x) = true := rfl
theorem okN_cells {p : VPln} {n : VNod} {a : Int} (h : okN p n a = true) : n.cells.length = p.cells.length ∧ ∀ k, k < p.cells.length → celOkB (n.cell k) = true := by
  unfold okN goodB at h
  simp only [Bool.and_eq_true, decide_eq_true_eq] at h
  refine ⟨by omega, fun k hk => ?_⟩
  have := rall_get h.2.2.2.2.1 k hk
  unfold cellsAt celB at this
  simp only [Bool.and_eq_true] at this
  exact this.1
theorem TY_nodInputI1 {P : Program} (hP : P = Tryz.prog) : (((P.follows .mixedOrders = true) ∧ ((fldT P 37 0 = some ((0, (false, 1)))) ∧ (tyT P 4 = some ((false, 1))))) ∧ ((fldT P 43 3 = some ((3, (false, 1)))) ∧ ((tyT P 39 = some ((false, 1))) ∧ (lkT P 39 = 1)))) ∧ (((elT P 39 = some ((true, (5, 56)))) ∧ ((fldT P 156 0 = some ((0, (false, 1)))) ∧ (tyT P 3 = some ((false, 1))))) ∧ (((fldT P 37 3 = some ((3, (false, 1)))) ∧ (tyT P 29 = some ((false, 1)))) ∧ ((elT P 29 = some ((true, (5, 88)))) ∧ (tyT P 151 = some ((true, 5)))))) := by subst hP; refine ⟨⟨⟨?_, ⟨?_, ?_⟩⟩, ⟨?_, ⟨?_, ?_⟩⟩⟩, ⟨⟨?_, ⟨?_, ?_⟩⟩, ⟨⟨?_, ?_⟩, ⟨?_, ?_⟩⟩⟩⟩ <;> kernel_rfl
theorem nodInputI1 {P : Program} [Known P] (hP : P = Tryz.prog) (p : VPln) (hs : Sz p) (n : VNod) (hn : SzN n) (a d v : Int) (ok : okN p n a = true) : FunX P 103 2 [.cp 0 0 0, .cp 1 0 0, .int .i64 a, .int .i64 d, .int .i64 v] [(0, ⟨7, [plnS p], [], true⟩), (1, ⟨10, [nodO n], [], true⟩)] (fun r h => r = .tup [] ∧ h = [(0, ⟨7, [plnS p], [], true⟩), (1, ⟨10, [nodO (inputK p n a d v)], [], true⟩)]) := by
  refine fun_ofG (fn := Tryz.f103) (hP ▸ Tryz.func103) (by kernel_rfl) (by kernel_rfl) (by kernel_rfl) (by kernel_rfl) ?_
  have hT := TY_nodInputI1 hP
  have hm : P.follows .mixedOrders = true := by subst hP; kernel_rfl
  have bv := vmByte hP v
  have ph := plnHas hP d p.cells.length
  have ci := fun c v h1 h2 h3 => celInputI hP c v h1 h2 h3
  clear hP
  intro hl
  clear hl
  simp only [plnS, nodO, Tryz.f103, hT, eA, Nat.beq, List.toArray, reduceAdd, reduceLT, reduceLeDiff, reduceToNat]
  obtain ⟨hcl, hok⟩ := okN_cells ok
  have hpc : p.cells.length ≤ 140737488355328 := by have := hs.c; omega
  have bad : inpB p n a d v = false → inputK p n a d v = n := fun h => by unfold inputK; rw [h]; rfl
  cases hup : n.up
  · have hk := bad (by unfold inpB; rw [hup]; rfl)
    rw [hk]
    simp only [hup, hT, ↓If_lit, eA, Nat.beq, List.toArray, reduceAdd, reduceLT, reduceLeDiff, reduceToNat]
    refine RetG.fin ?_
    simp only [eA, Nat.beq, List.toArray, reduceAdd, reduceLT, reduceLeDiff, reduceToNat]
    refine ⟨_, _, ⟨rfl, rfl⟩, ?_⟩
    repeat' first | (with_reducible refine And.intro ?_ ?_) | trivial | rfl
  · simp only [hup, hT, ↓If_lit, eA, Nat.beq, List.toArray, reduceAdd, reduceLT, reduceLeDiff, reduceToNat]
    refine Fun.plain (bv) rfl rfl rfl rfl ?_; simp only [hT, eN, ↓If_lit, Int.reduceLT, Int.reduceLE, eA, Nat.beq, List.toArray, reduceAdd, reduceLT, reduceLeDiff, reduceToNat]; (try unfold lim); repeat first | ((with_reducible refine And.intro ?_ ?_); (first | omega | exact ⟨by omega, by omega⟩ | rfl)) | intro _
    cases hv : byI v
    · have hk := bad (by unfold inpB; rw [hv]; simp only [Bool.false_and, Bool.and_false])
      rw [hk]
      simp only [hup, hT, ↓If_lit, eA, Nat.beq, List.toArray, reduceAdd, reduceLT, reduceLeDiff, reduceToNat]
      refine RetG.fin ?_
      simp only [eA, Nat.beq, List.toArray, reduceAdd, reduceLT, reduceLeDiff, reduceToNat]
      refine ⟨_, _, ⟨rfl, rfl⟩, ?_⟩
      repeat' first | (with_reducible refine And.intro ?_ ?_) | trivial | rfl
    · simp only [hT, ↓If_lit, eA, Nat.beq, List.toArray, reduceAdd, reduceLT, reduceLeDiff, reduceToNat]
      intro _
      refine Fun.plain (ph) rfl rfl rfl rfl ?_; simp only [hT, eN, ↓If_lit, Int.reduceLT, Int.reduceLE, eA, Nat.beq, List.toArray, reduceAdd, reduceLT, reduceLeDiff, reduceToNat]; (try unfold lim); repeat first | ((with_reducible refine And.intro ?_ ?_); (first | omega | exact ⟨by omega, by omega⟩ | rfl)) | intro _
      cases hd : has d p.cells.length
      · have hk := bad (by unfold inpB; rw [hd]; simp only [Bool.false_and, Bool.and_false])
        rw [hk]
        simp only [hup, hT, ↓If_lit, eA, Nat.beq, List.toArray, reduceAdd, reduceLT, reduceLeDiff, reduceToNat]
        refine RetG.fin ?_
        simp only [eA, Nat.beq, List.toArray, reduceAdd, reduceLT, reduceLeDiff, reduceToNat]
        refine ⟨_, _, ⟨rfl, rfl⟩, ?_⟩
        repeat' first | (with_reducible refine And.intro ?_ ?_) | trivial | rfl
      · obtain ⟨d1, d2⟩ := has_iff hd
        have hr2 : ∀ x, (p.cells.map cellS).getD d.toNat x = cellS (p.cell d.toNat) := fun x => getIn cellS p.cells _ x c0 (by omega)
        simp only [cellS] at hr2
        simp only [hT, hr2, ↓If_lit, eA, Nat.beq, List.toArray, reduceAdd, reduceLT, reduceLeDiff, reduceToNat]
        repeat' first | (with_reducible refine And.intro ?_ ?_) | omega
        refine If.mk (fun q => ?_) (fun q => ?_)
        · have hk := bad (by unfold inpB; simp only [Bool.not_eq_true'] at q; rw [q]; simp only [Bool.false_and, Bool.and_false])
          rw [hk]
          simp only [hup, hT, ↓If_lit, eA, Nat.beq, List.toArray, reduceAdd, reduceLT, reduceLeDiff, reduceToNat]
          refine RetG.fin ?_
          simp only [eA, Nat.beq, List.toArray, reduceAdd, reduceLT, reduceLeDiff, reduceToNat]
          refine ⟨_, _, ⟨rfl, rfl⟩, ?_⟩
          repeat' first | (with_reducible refine And.intro ?_ ?_) | trivial | rfl
        · simp only [Bool.not_eq_false'] at q
          have hin : inpB p n a d v = true := by unfold inpB; rw [hup, hv, hd, q]; rfl
          have hk : inputK p n a d v = setCel n d.toNat (celIn (n.cell d.toNat) v) := by unfold inputK; rw [hin]; rfl
          rw [hk, show setCel n d.toNat (celIn (n.cell d.toNat) v) = ((true, n.boot, n.hello, n.cells.set d.toNat (celIn (n.cell d.toNat) v), n.out, n.inn, n.outs, n.inns, n.heard, ()) : VNod) from by unfold setCel; rw [hup]]
          have hset := (List.map_set (f := celO) (l := n.cells) (i := d.toNat) (a := celIn (n.cell d.toNat) v)).symm
          simp only [celO] at hset
          have hlt : d.toNat < n.cells.length := by omega
          have hr1 : ∀ x, (n.cells.map celO).getD d.toNat x = celO (n.cell d.toNat) := fun x => getIn celO n.cells _ x cel0 hlt
          have ci := ci (n.cell d.toNat) v (hn.c1 _ hlt) (hn.c2 _ hlt) ⟨hok _ (by omega), hv⟩
          simp only [celO] at hr1
          simp only [celS, celO] at ci
          refine wpc_draw (.take 0 (.take 1 (.take 2 (.take 4 (.take 5 (.take 6 (.take 7 (.take 9 (.take 12 (.alt 3 (.alt 8 (.alt 10 (.alt 11 (.alt 13 (.take 14 (.take 15 (.take 16 (.alt 17 (.alt 18 .done .stop) .stop)))) .stop) .stop) .stop) .stop) (.alt 8 (.alt 3 (.alt 10 (.alt 11 (.alt 13 (.take 14 (.take 15 (.take 16 (.alt 17 (.alt 18 .done .stop) .stop)))) .stop) .stop) .stop) (.alt 10 (.alt 3 (.alt 11 (.alt 13 (.take 14 (.take 15 (.take 16 (.alt 17 (.alt 18 .done .stop) .stop)))) .stop) .stop) (.alt 11 (.alt 3 (.alt 13 (.take 14 (.take 15 (.take 16 (.alt 17 (.alt 18 .done .stop) .stop)))) .stop) (.alt 13 (.take 14 (.take 15 (.take 16 (.alt 3 (.alt 17 (.alt 18 .done .stop) .stop) .stop)))) .stop)) .stop)) .stop)) .stop))))))))))) hm (by kernel_rfl) ?_
          simp only [hT, hr1, List.length_map, Int.toNat_natCast, ↓If_lit, eT, ↓If_lit, PCall, reduceSub, reduceCtorEq, eA, Nat.beq, List.toArray, reduceAdd, reduceLT, reduceLeDiff, reduceToNat]
          repeat' first
            | (with_reducible refine And.intro ?_ ?_)
            | omega
            | rfl
            | (refine Fun.lent ci (by simp only [Int.cast_ofNat_Int, List.map_cons, List.map_nil, pur, geth, Nat.beq, cond_true, cond_false, rdR_byt, rdL, AV.rd, AV.nbV, AV.nb, rdR_cell, rdR_way, rdR_slot, rdR_turn, rdR_cel, rdR_box, rdR_out, rdR_inn, rdR_int]) (by rfl) rfl rfl (by simp only [AV.na, naL, naR_byt, naR_int, Bool.and_self]) ?_; simp only [hT, hr1, List.length_map, List.length_set, List.set_set, Int.toNat_natCast, ↓If_lit, eT, ↓If_lit, PCall, reduceSub, reduceCtorEq, eA, Nat.beq, List.toArray, reduceAdd, reduceLT, reduceLeDiff, reduceToNat])
            | trivial
            | (intro _)
          all_goals
            simp only [hset]
            refine RetG.le (Le.shut 2 _ (by simp only; omega) (by rfl) (npMap _ npCel _)) ?_
            simp only [eA, Nat.beq, List.toArray, reduceAdd, reduceLT, reduceLeDiff, reduceToNat]
            refine RetG.le (Le.abs 1 0 _ (by simp only; omega) (by rfl) rfl (by simp)) (RetG.fin ?_)
            simp only [absRow, eA, Nat.beq, List.toArray, reduceAdd, reduceLT, reduceLeDiff, reduceToNat]
            refine ⟨_, _, ⟨rfl, rfl⟩, ?_⟩
            repeat' first | (with_reducible refine And.intro ?_ ?_) | trivial | rfl
theorem TY_nodInputI {P : Program} (hP : P = Tryz.prog) : ((zeroT P 37 = some (((.bool false) :: ((.int .i64 0) :: ((.int .i64 0) :: (.nils :: (.nils :: (.nils :: (.nils :: (.nils :: (.nils :: (.nils :: [])))))))))))) ∧ (tyT P 43 = some ((true, 7)))) ∧ ((tyT P 37 = some ((true, 10))) ∧ (bldT P 37 = true)) := by subst hP; refine ⟨⟨?_, ?_⟩, ⟨?_, ?_⟩⟩ <;> kernel_rfl
theorem nodInputI {P : Program} [Known P] (hP : P = Tryz.prog) (p : VPln) (hs : Sz p) (n : VNod) (hn : SzN n) (a d v : Int) : Fun P 31 [.agg (plnS p), .agg (nodS n), .int .i64 a, .int .i64 d, .int .i64 v] (.agg (nodO (inputN p n a d v))) := by
  refine fun_of (fn := Tryz.f31) (hP ▸ Tryz.func31) (by kernel_rfl) (by kernel_rfl) (by kernel_rfl) (by kernel_rfl) ?_
  have hT := TY_nodInputI hP
  have oi := nodOkI hP p hs n hn a
  have cp := nodCopyI hP n hn
  have ri := fun h => nodInputI1 hP p hs n hn a d v h
  clear hP
  intro hl
  clear hl
  simp only [plnS, nodS, Tryz.f31, hT, eA, Nat.beq, List.toArray, reduceAdd, reduceLT, reduceLeDiff, reduceToNat]
  simp only [plnS, nodS] at oi
  simp only [nodS, nodO] at cp
  unfold inputN
  refine Fun.plain (oi) rfl rfl rfl rfl ?_; simp only [hT, eN, ↓If_lit, Int.reduceLT, Int.reduceLE, eA, Nat.beq, List.toArray, reduceAdd, reduceLT, reduceLeDiff, reduceToNat]; (try unfold lim); repeat first | ((with_reducible refine And.intro ?_ ?_); (first | omega | exact ⟨by omega, by omega⟩ | rfl)) | intro _
  refine ⟨fun q => ?_, fun q => ?_⟩
  · have q : okN p n a = false := by simpa using q
    rw [q]
    exact nod0_sub
  · have q : okN p n a = true := by simpa using q
    rw [q]
    simp only [cond_true]
    have ri := (ri q).m
    simp only [plnS, nodO] at ri
    refine Fun.plain (cp) rfl rfl rfl rfl ?_; simp only [hT, eN, ↓If_lit, Int.reduceLT, Int.reduceLE, eA, Nat.beq, List.toArray, reduceAdd, reduceLT, reduceLeDiff, reduceToNat]; (try unfold lim); repeat first | ((with_reducible refine And.intro ?_ ?_); (first | omega | exact ⟨by omega, by omega⟩ | rfl)) | intro _
    refine FunM.lend (ri) ([(0, some 0), (1, some 1)]) 0 (by simp only [eD, eM, Nat.beq, reduceLT, reduceAdd, reduceSub, AV.nb]) (by simp only [eD, eM, Nat.beq, reduceLT, reduceAdd, reduceSub, AV.nb]) (by simp only [eD, eM, Nat.beq, reduceLT, reduceAdd, reduceSub, AV.nb]) (by simp only [eD, eM, Nat.beq, reduceLT, reduceAdd, reduceSub, AV.nb]) (by simp only [eD, eM, Nat.beq, reduceLT, reduceAdd, reduceSub, AV.nb]) (by simp only [eD, eM, Nat.beq, reduceLT, reduceAdd, reduceSub, AV.nb]) rfl ?_; simp only [hT, nneg, decide_true, decide_false, ↓If_lit, Int.reduceLT, Int.reduceLE, eD, eM, Nat.beq, reduceLT, reduceAdd, reduceSub, AV.nb, eA, Nat.beq, List.toArray, reduceAdd, reduceLT, reduceLeDiff, reduceToNat]
    repeat' first | (with_reducible refine And.intro ?_ ?_) | omega | exact nod_sub _ | rfl | trivial
theorem TY_nodInputS1 {P : Program} (hP : P = Tryz.prog) : (((zeroT P 37 = some (((.bool false) :: ((.int .i64 0) :: ((.int .i64 0) :: (.nils :: (.nils :: (.nils :: (.nils :: (.nils :: (.nils :: (.nils :: [])))))))))))) ∧ ((tyT P 37 = some ((true, 10))) ∧ (fldT P 37 0 = some ((0, (false, 1)))))) ∧ (((tyT P 4 = some ((false, 1))) ∧ (fldT P 43 3 = some ((3, (false, 1))))) ∧ ((tyT P 39 = some ((false, 1))) ∧ (lkT P 39 = 1)))) ∧ ((((elT P 39 = some ((true, (5, 56)))) ∧ (fldT P 156 0 = some ((0, (false, 1))))) ∧ ((tyT P 3 = some ((false, 1))) ∧ (fldT P 37 3 = some ((3, (false, 1)))))) ∧ (((tyT P 29 = some ((false, 1))) ∧ (elT P 29 = some ((true, (5, 88))))) ∧ ((tyT P 151 = some ((true, 5))) ∧ (zeroT P 151 = some (((.int .i64 0) :: (.nils :: (.nils :: ((.int .i64 0) :: (.nils :: [])))))))))) := by subst hP; refine ⟨⟨⟨?_, ⟨?_, ?_⟩⟩, ⟨⟨?_, ?_⟩, ⟨?_, ?_⟩⟩⟩, ⟨⟨⟨?_, ?_⟩, ⟨?_, ?_⟩⟩, ⟨⟨?_, ?_⟩, ⟨?_, ?_⟩⟩⟩⟩ <;> kernel_rfl
theorem nodInputS1 {P : Program} [Known P] (hP : P = Tryz.prog) (p : VPln) (hs : Sz p) (n : VNod) (hn : SzN n) (a d v : Int) (ok : okN p n a = true) : FunX P 102 0 [.agg (plnS p), .agg (nodS n), .int .i64 a, .int .i64 d, .int .i64 v] [] (fun r h => r = .agg (nodO (inputK p n a d v)) ∧ h = []) := by
  refine fun_ofG (fn := Tryz.f102) (hP ▸ Tryz.func102) (by kernel_rfl) (by kernel_rfl) (by kernel_rfl) (by kernel_rfl) ?_
  have hT := TY_nodInputS1 hP
  have cp := nodCopyS hP n hn
  have ph := l1In hP d 0 (p.cells.length - 1)
  have bv := l1In hP v 0 255
  have ci := fun c v h1 h2 h3 => celInputS hP c v h1 h2 h3
  clear hP
  intro hl
  clear hl
  simp only [nodS, nodO] at cp
  simp only [plnS, nodS, nodO, Tryz.f102, hT, eA, Nat.beq, List.toArray, reduceAdd, reduceLT, reduceLeDiff, reduceToNat]
  obtain ⟨hcl, hok⟩ := okN_cells ok
  have hpc : p.cells.length ≤ 140737488355328 := by have := hs.c; omega
  have bad : inpB p n a d v = false → inputK p n a d v = n := fun h => by unfold inputK; rw [h]; rfl
  refine Fun.plain cp rfl rfl rfl rfl ?_; simp only [hT, eN, ↓If_lit, Int.reduceLT, Int.reduceLE, eA, Nat.beq, List.toArray, reduceAdd, reduceLT, reduceLeDiff, reduceToNat]; (try unfold lim); repeat first | ((with_reducible refine And.intro ?_ ?_); (first | omega | exact ⟨by omega, by omega⟩ | rfl)) | intro _
  cases hup : n.up
  · have hk := bad (by unfold inpB; rw [hup]; rfl)
    rw [hk]
    simp only [hup, hT, ↓If_lit, eA, Nat.beq, List.toArray, reduceAdd, reduceLT, reduceLeDiff, reduceToNat]
    repeat' first | (with_reducible refine And.intro ?_ ?_) | omega | rfl | trivial | intro _
    refine RetG.fin ?_
    simp only [hT, eA, Nat.beq, List.toArray, reduceAdd, reduceLT, reduceLeDiff, reduceToNat]
    refine ⟨_, _, ⟨rfl, rfl⟩, ?_⟩
    repeat' first | (with_reducible refine And.intro ?_ ?_) | trivial | exact nod_sub _ | rfl
  · simp only [hup, hT, ↓If_lit, eA, Nat.beq, List.toArray, reduceAdd, reduceLT, reduceLeDiff, reduceToNat]
    repeat' first | (with_reducible refine And.intro ?_ ?_) | (show In64 _; exact ⟨by omega, by omega⟩) | omega | intro _
    rw [show (decide (0 ≤ d) && decide (d ≤ (p.cells.length : Int) - 1)) = has d p.cells.length from by unfold has; rw [Bool.eq_iff_iff]; simp; omega] at ph
    refine Fun.plain ph rfl rfl rfl rfl ?_; simp only [hT, eN, ↓If_lit, Int.reduceLT, Int.reduceLE, eA, Nat.beq, List.toArray, reduceAdd, reduceLT, reduceLeDiff, reduceToNat]; (try unfold lim); repeat first | ((with_reducible refine And.intro ?_ ?_); (first | omega | exact ⟨by omega, by omega⟩ | rfl)) | intro _
    cases hd : has d p.cells.length
    · have hk := bad (by unfold inpB; rw [hd]; simp only [Bool.false_and, Bool.and_false])
      rw [hk]
      simp only [hup, hT, ↓If_lit, eA, Nat.beq, List.toArray, reduceAdd, reduceLT, reduceLeDiff, reduceToNat]
      repeat' first | (with_reducible refine And.intro ?_ ?_) | omega | rfl | trivial | intro _
      refine RetG.fin ?_
      simp only [hT, eA, Nat.beq, List.toArray, reduceAdd, reduceLT, reduceLeDiff, reduceToNat]
      refine ⟨_, _, ⟨rfl, rfl⟩, ?_⟩
      repeat' first | (with_reducible refine And.intro ?_ ?_) | trivial | exact nod_sub _ | rfl
    · obtain ⟨d1, d2⟩ := has_iff hd
      have hr2 : ∀ x, (p.cells.map cellS).getD d.toNat x = cellS (p.cell d.toNat) := fun x => getIn cellS p.cells _ x c0 (by omega)
      simp only [cellS] at hr2
      simp only [hT, hr2, ↓If_lit, eA, Nat.beq, List.toArray, reduceAdd, reduceLT, reduceLeDiff, reduceToNat]
      repeat' first | (with_reducible refine And.intro ?_ ?_) | omega
      refine If.mk (fun q => ?_) (fun q => ?_)
      · have hk := bad (by unfold inpB; simp only [Bool.not_eq_true'] at q; rw [q]; simp only [Bool.false_and, Bool.and_false])
        rw [hk]
        simp only [hup, hT, ↓If_lit, eA, Nat.beq, List.toArray, reduceAdd, reduceLT, reduceLeDiff, reduceToNat]
        repeat' first | (with_reducible refine And.intro ?_ ?_) | omega | rfl | trivial | intro _
        refine RetG.fin ?_
        simp only [hT, eA, Nat.beq, List.toArray, reduceAdd, reduceLT, reduceLeDiff, reduceToNat]
        refine ⟨_, _, ⟨rfl, rfl⟩, ?_⟩
        repeat' first | (with_reducible refine And.intro ?_ ?_) | trivial | exact nod_sub _ | rfl
      · simp only [Bool.not_eq_false'] at q
        refine Fun.plain bv rfl rfl rfl rfl ?_; simp only [hT, eN, ↓If_lit, Int.reduceLT, Int.reduceLE, eA, Nat.beq, List.toArray, reduceAdd, reduceLT, reduceLeDiff, reduceToNat]; (try unfold lim); repeat first | ((with_reducible refine And.intro ?_ ?_); (first | omega | exact ⟨by omega, by omega⟩ | rfl)) | intro _
        cases hv : byI v
        · have hk := bad (by unfold inpB; rw [hv]; simp only [Bool.false_and, Bool.and_false])
          have hv2 : (decide (0 ≤ v) && decide (v ≤ 255)) = false := hv
          rw [hk]
          simp only [hup, hv2, hT, ↓If_lit, eA, Nat.beq, List.toArray, reduceAdd, reduceLT, reduceLeDiff, reduceToNat]
          repeat' first | (with_reducible refine And.intro ?_ ?_) | omega | rfl | trivial | intro _
          refine RetG.fin ?_
          simp only [hT, eA, Nat.beq, List.toArray, reduceAdd, reduceLT, reduceLeDiff, reduceToNat]
          refine ⟨_, _, ⟨rfl, rfl⟩, ?_⟩
          repeat' first | (with_reducible refine And.intro ?_ ?_) | trivial | exact nod_sub _ | rfl
        · have hv2 : (decide (0 ≤ v) && decide (v ≤ 255)) = true := hv
          have hin : inpB p n a d v = true := by unfold inpB; rw [hup, hv, hd, q]; rfl
          have hk : inputK p n a d v = setCel n d.toNat (celIn (n.cell d.toNat) v) := by unfold inputK; rw [hin]; rfl
          rw [hk, show setCel n d.toNat (celIn (n.cell d.toNat) v) = ((true, n.boot, n.hello, n.cells.set d.toNat (celIn (n.cell d.toNat) v), n.out, n.inn, n.outs, n.inns, n.heard, ()) : VNod) from by unfold setCel; rw [hup]]
          have hset := (List.map_set (f := celO) (l := n.cells) (i := d.toNat) (a := celIn (n.cell d.toNat) v)).symm
          have hset0 : (n.cells.map celO).set d.toNat (celO (n.cell d.toNat)) = n.cells.map celO := by
            rw [← List.map_set]; congr 1
            refine List.ext_getElem (by simp) fun i h1 h2 => ?_
            rw [List.getElem_set]; split
            · rename_i e; subst e; show n.cells.getD d.toNat cel0 = _; rw [List.getD_eq_getElem?_getD, List.getElem?_eq_getElem h2]; rfl
            · rfl
          have hlt : d.toNat < n.cells.length := by omega
          have hr1 : ∀ x, (n.cells.map celO).getD d.toNat x = celO (n.cell d.toNat) := fun x => getIn celO n.cells _ x cel0 hlt
          have ci := ci (n.cell d.toNat) v (hn.c1 _ hlt) (hn.c2 _ hlt) ⟨hok _ (by omega), hv⟩
          have hfull : decide (((n.cell d.toNat).2.1.length : Int) < 6) = false → celIn (n.cell d.toNat) v = n.cell d.toNat := fun h => by
            unfold celIn
            rw [show decide (6 ≤ ((n.cell d.toNat).2.1.length : Int)) = true from by simp at h ⊢; omega]; rfl
          simp only [celO] at hr1 hset hset0
          simp only [celS, celO] at ci
          simp only [hup, hv2, hr1, hT, List.length_map, ↓If_lit, eA, Nat.beq, List.toArray, reduceAdd, reduceLT, reduceLeDiff, reduceToNat]
          repeat' first | (with_reducible refine And.intro ?_ ?_) | omega | rfl | trivial | intro _
          refine Fun.lent ci (by simp only [Int.cast_ofNat_Int, List.map_cons, List.map_nil, pur, geth, Nat.beq, cond_true, cond_false, rdR_byt, rdL, AV.rd, AV.nbV, AV.nb, rdR_cell, rdR_way, rdR_slot, rdR_turn, rdR_cel, rdR_box, rdR_out, rdR_inn, rdR_int]) (by rfl) rfl rfl (by simp only [AV.na, naL, naR_byt, naR_int, Bool.and_self]) ?_
          simp only [hT, hr1, List.length_map, List.length_set, List.set_set, ↓If_lit, eA, Nat.beq, List.toArray, reduceAdd, reduceLT, reduceLeDiff, reduceToNat]
          repeat' first | (with_reducible refine And.intro ?_ ?_) | omega | rfl | trivial | intro _
          have hgs : ∀ r x, ((n.cells.map celO).set d.toNat r).getD d.toNat x = r := fun r x => by
            rw [List.getD_eq_getElem?_getD, List.getElem?_set_self (by simpa using hlt), Option.getD_some]
          refine If.mk (fun q6 => ?_) (fun q6 => ?_)
          · repeat' first | (with_reducible refine And.intro ?_ ?_) | omega | rfl | trivial
            simp only [hset]
            refine RetG.le (Le.shut 11 _ (Nat.zero_le _) (by rfl) (npMap _ npCel _)) ?_
            simp only [eA, Nat.beq, List.toArray, reduceAdd, reduceLT, reduceLeDiff, reduceToNat]
            refine RetG.le (Le.abs 2 0 _ (Nat.zero_le _) (by rfl) rfl (by simp)) (RetG.fin ?_)
            simp only [absRow, hT, eA, Nat.beq, List.toArray, reduceAdd, reduceLT, reduceLeDiff, reduceToNat]
            refine ⟨_, _, ⟨rfl, rfl⟩, ?_⟩
            repeat' first | (with_reducible refine And.intro ?_ ?_) | trivial | rfl
          · have hsame : n.cells.set d.toNat (n.cell d.toNat) = n.cells := by
              refine List.ext_getElem (by simp) fun i h1 h2 => ?_
              rw [List.getElem_set]; split
              · rename_i e; subst e; show n.cells.getD d.toNat cel0 = _; rw [List.getD_eq_getElem?_getD, List.getElem?_eq_getElem h2]; rfl
              · rfl
            rw [hfull q6] at *
            rw [hsame]
            repeat' first | (with_reducible refine And.intro ?_ ?_) | omega | rfl | trivial
            refine RetG.le (Le.abs 11 d.toNat _ (Nat.zero_le _) (by rfl) rfl (by simpa using hlt)) ?_
            simp only [absRow, hgs, List.set_set, hset0, eA, Nat.beq, List.toArray, reduceAdd, reduceLT, reduceLeDiff, reduceToNat]
            refine RetG.le (Le.shut 11 _ (Nat.zero_le _) (by rfl) (npMap _ npCel _)) ?_
            simp only [eA, Nat.beq, List.toArray, reduceAdd, reduceLT, reduceLeDiff, reduceToNat]
            refine RetG.le (Le.abs 2 0 _ (Nat.zero_le _) (by rfl) rfl (by simp)) (RetG.fin ?_)
            simp only [absRow, hset, hset0, hT, eA, Nat.beq, List.toArray, reduceAdd, reduceLT, reduceLeDiff, reduceToNat]
            refine ⟨_, _, ⟨rfl, rfl⟩, ?_⟩
            repeat' first | (with_reducible refine And.intro ?_ ?_) | trivial | rfl
theorem TY_nodInputS {P : Program} (hP : P = Tryz.prog) : ((zeroT P 37 = some (((.bool false) :: ((.int .i64 0) :: ((.int .i64 0) :: (.nils :: (.nils :: (.nils :: (.nils :: (.nils :: (.nils :: (.nils :: [])))))))))))) ∧ (tyT P 43 = some ((true, 7)))) ∧ ((tyT P 37 = some ((true, 10))) ∧ (bldT P 37 = true)) := by subst hP; refine ⟨⟨?_, ?_⟩, ⟨?_, ?_⟩⟩ <;> kernel_rfl
theorem nodInputS {P : Program} [Known P] (hP : P = Tryz.prog) (p : VPln) (hs : Sz p) (n : VNod) (hn : SzN n) (a d v : Int) : Fun P 30 [.agg (plnS p), .agg (nodS n), .int .i64 a, .int .i64 d, .int .i64 v] (.agg (nodO (inputN p n a d v))) := by
  refine fun_of (fn := Tryz.f30) (hP ▸ Tryz.func30) (by kernel_rfl) (by kernel_rfl) (by kernel_rfl) (by kernel_rfl) ?_
  have hT := TY_nodInputS hP
  have oi := nodOkS hP p hs n hn a
  have ri := fun h => nodInputS1 hP p hs n hn a d v h
  clear hP
  intro hl
  clear hl
  simp only [plnS, nodS, Tryz.f30, hT, eA, Nat.beq, List.toArray, reduceAdd, reduceLT, reduceLeDiff, reduceToNat]
  simp only [plnS, nodS] at oi
  unfold inputN
  refine Fun.plain (oi) rfl rfl rfl rfl ?_; simp only [hT, eN, ↓If_lit, Int.reduceLT, Int.reduceLE, eA, Nat.beq, List.toArray, reduceAdd, reduceLT, reduceLeDiff, reduceToNat]; (try unfold lim); repeat first | ((with_reducible refine And.intro ?_ ?_); (first | omega | exact ⟨by omega, by omega⟩ | rfl)) | intro _
  refine ⟨fun q => ?_, fun q => ?_⟩
  · have q : okN p n a = false := by simpa using q
    rw [q]
    exact nod0_sub
  · have q : okN p n a = true := by simpa using q
    rw [q]
    simp only [cond_true]
    have ri : Fun P _ _ _ := ⟨(ri q).en, (ri q).call⟩
    simp only [plnS, nodS, nodO] at ri
    refine Fun.plain (ri) rfl rfl rfl rfl ?_; simp only [hT, eN, ↓If_lit, Int.reduceLT, Int.reduceLE, eA, Nat.beq, List.toArray, reduceAdd, reduceLT, reduceLeDiff, reduceToNat]; (try unfold lim); repeat first | ((with_reducible refine And.intro ?_ ?_); (first | omega | exact ⟨by omega, by omega⟩ | rfl)) | intro _
    exact nod_sub _
end Go.Proofs.YtjlmfcddbcoimaaGreat.C
