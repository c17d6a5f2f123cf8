/- Whether a node's cells and ways are ok, by the given text. -/
import Derived.Test.YtjlmfcddbcoimaaGreatCNodV
set_option maxRecDepth 100000
set_option maxHeartbeats 4000000
set_option linter.unusedSimpArgs false
set_option linter.unusedVariables false
namespace Go.Proofs.YtjlmfcddbcoimaaGreat.C
open Go Go.Av Go.Proofs
open Nat (reduceAdd reduceLT reduceLeDiff reduceSub)
open Int (reduceToNat)
theorem TY_cellsOkS {P : Program} (hP : P = Tryz.prog) : ((((P.follows .mixedOrders = true) ∧ (fldT P 37 3 = some ((3, (false, 1))))) ∧ ((tyT P 29 = some ((false, 1))) ∧ ((lkT P 29 = 1) ∧ (fldT P 43 3 = some ((3, (false, 1))))))) ∧ (((tyT P 39 = some ((false, 1))) ∧ (lkT P 39 = 1)) ∧ ((elT P 29 = some ((true, (5, 88)))) ∧ ((tyT P 151 = some ((true, 5))) ∧ (zeroT P 151 = some (((.int .i64 0) :: (.nils :: (.nils :: ((.int .i64 0) :: (.nils :: []))))))))))) ∧ ((((fldT P 151 0 = some ((0, (true, 4)))) ∧ (fldT P 148 0 = some ((0, (false, 1))))) ∧ ((tyT P 3 = some ((false, 1))) ∧ ((elT P 39 = some ((true, (5, 56)))) ∧ (fldT P 156 3 = some ((4, (false, 1))))))) ∧ (((tyT P 154 = some ((false, 1))) ∧ (lkT P 154 = 1)) ∧ ((fldT P 156 0 = some ((0, (false, 1)))) ∧ ((fldT P 37 0 = some ((0, (false, 1)))) ∧ (tyT P 4 = some ((false, 1))))))) := by subst hP; refine ⟨⟨⟨⟨?_, ?_⟩, ⟨?_, ⟨?_, ?_⟩⟩⟩, ⟨⟨?_, ?_⟩, ⟨?_, ⟨?_, ?_⟩⟩⟩⟩, ⟨⟨⟨?_, ?_⟩, ⟨?_, ⟨?_, ?_⟩⟩⟩, ⟨⟨?_, ?_⟩, ⟨?_, ⟨?_, ?_⟩⟩⟩⟩⟩ <;> kernel_rfl
theorem cellsOkS {P : Program} [Known P] (hP : P = Tryz.prog) (p : VPln) (hs : Sz p) (n : VNod) (hn : SzN n) (a : Int) : Fun P 180 [.agg (plnS p), .agg (nodS n), .int .i64 a] (.bool (decide ((n.cells.length : Int) = p.cells.length) && (List.range p.cells.length).all (cellsAt p n a))) := by
  refine fun_of (fn := Tryz.f180) (hP ▸ Tryz.func180) (by kernel_rfl) (by kernel_rfl) (by kernel_rfl) (by kernel_rfl) ?_
  have hT := TY_cellsOkS hP
  have hm : P.follows .mixedOrders = true := by subst hP; kernel_rfl
  have ec := fun c => celOkS hP c
  have e2 := celNewS hP
  have e3 := fun c d => sameCellS hP c d
  clear hP
  intro hl
  clear hl
  simp only [plnS, nodS, Tryz.f180, hT, eA, Nat.beq, List.toArray, reduceAdd, reduceLT, reduceLeDiff, reduceToNat]
  have hbc : n.cells.length ≤ 140737488355328 := by have := hn.c; omega
  have hbp : p.cells.length ≤ 140737488355328 := by have := hs.c; omega
  have hbk : ∀ k, k < p.cells.length → (p.cell k).2.2.2.1.length ≤ 140737488355328 := fun k hk => Nat.le_trans (hs.cs k hk) (by omega)
  simp only [celS] at ec e3
  simp only [celO, celN, stN, stO] at e2
  repeat intro _
  refine If.mk (fun q => by simp only [Bool.not_eq_true'] at q; rw [q, Bool.false_and]) (fun q => ?_)
  have hle : n.cells.length = p.cells.length := by simp at q; omega
  simp only [Bool.not_eq_false'] at q
  rw [q, Bool.true_and]
  refine wpc_loop {k : Nat // k ≤ p.cells.length ∧ (List.range k).all (cellsAt p n a) = true} (fun k => ⟨[(2, .int .i64 a), (3, .cp 0 0 0), (4, .cp 1 0 0), (7, .int .i64 k.1)], [(1, ⟨10, [nodS n], [], true⟩), (0, ⟨7, [plnS p], [], true⟩)], 2⟩) (fun k => p.cells.length - k.1) ⟨0, Nat.zero_le _, rfl⟩ (Le.of [] (Nat.zero_le _) ?_ ?_ ?_) ?_
  · simp only [eL, eH, eG, leO, Nat.beq, reduceLT]
  · simp only [plnS, nodS, eL, eH, eG, leO, Nat.beq, reduceLT]; first | done | rfl | simp | omega
  · simp only [plnS, nodS, eL, eH, eG, leO, Nat.beq, reduceLT]
  · rintro ⟨k, hk, hp⟩
    by_cases hlt : k < p.cells.length
    · have hf : decide ((k : Int) < n.cells.length) = true := decide_eq_true (by omega)
      have hr1 : ∀ d, (n.cells.map celS).getD k d = celS (n.cell k) := fun d => getIn celS n.cells k d cel0 (by omega)
      have hr2 : ∀ d, (p.cells.map cellS).getD k d = cellS (p.cell k) := fun d => getIn cellS p.cells k d c0 hlt
      have hta := rall_succ (cellsAt p n a) k
      have hab := rall_bad (cellsAt p n a) p.cells.length k hlt
      have hat : cellsAt p n a k = !(!celOkB (n.cell k) || (decide (((p.cell k).2.2.2.1.length : Int) < (n.cell k).1.1) || ((!decide ((p.cell k).1 = a) || !n.up) && !sameC (n.cell k) celN))) := by
        unfold cellsAt celB
        have : decide ((n.cell k).1.1 ≤ ((p.cell k).2.2.2.1.length : Int)) = !decide (((p.cell k).2.2.2.1.length : Int) < (n.cell k).1.1) := by rw [Bool.eq_iff_iff]; simp
        rw [this]
        generalize celOkB (n.cell k) = b1
        generalize decide (((p.cell k).2.2.2.1.length : Int) < (n.cell k).1.1) = b2
        generalize decide ((p.cell k).1 = a) = b3
        generalize sameC (n.cell k) celN = b4
        generalize n.up = b5
        revert b1 b2 b3 b4 b5
        decide
      have ec := ec (n.cell k)
      have e3 := e3 (n.cell k) celN
      generalize sameC (n.cell k) celN = bs at e3 hat
      simp only [celN, stN] at e3
      have hck := hbk k hlt
      simp only [celS, cellS] at hr1 hr2
      simp only [hT, hf, hr1, nodS, plnS, Int.toNat_natCast, ↓If_lit, eA, Nat.beq, List.toArray, reduceAdd, reduceLT, reduceLeDiff, reduceToNat]
      repeat intro _
      (try unfold lim); repeat first | ((with_reducible refine And.intro ?_ ?_); (first | omega | exact ⟨by omega, by omega⟩ | rfl)) | intro _
      have hbad : cellsAt p n a k = false → false = (List.range p.cells.length).all (cellsAt p n a) := fun e => by rw [hab e]
      cases hup : n.up
      all_goals refine wpc_draw (.alt 0 (.alt 1 (.take 2 (.take 3 (.take 4 (.take 5 (.take 7 (.take 9 (.alt 6 (.alt 8 (.take 10 (.take 11 (.take 12 (.take 13 (.take 14 (.take 15 (.take 16 (.take 17 (.take 19 (.take 23 (.alt 18 (.take 20 (.take 21 (.take 22 (.take 24 (.take 25 (.take 26 (.alt 27 (.take 28 (.take 29 (.take 30 (.alt 31 (.alt 32 (.alt 33 (.take 34 (.take 35 (.take 36 .done))) .stop) .stop) (.alt 32 (.alt 31 (.alt 33 (.take 34 (.take 35 (.take 36 .done))) .stop) .stop) .stop))))) .stop))))))) .stop))))))))))) .stop) (.alt 8 (.take 10 (.take 11 (.take 12 (.take 13 (.alt 6 (.take 14 (.take 15 (.take 16 (.take 17 (.take 19 (.take 23 (.alt 18 (.take 20 (.take 21 (.take 22 (.take 24 (.take 25 (.take 26 (.alt 27 (.take 28 (.take 29 (.take 30 (.alt 31 (.alt 32 (.alt 33 (.take 34 (.take 35 (.take 36 .done))) .stop) .stop) (.alt 32 (.alt 31 (.alt 33 (.take 34 (.take 35 (.take 36 .done))) .stop) .stop) .stop))))) .stop))))))) .stop))))))) .stop))))) .stop)))))))) .stop) .stop) hm (by kernel_rfl) ?_
      all_goals simp only [hT, hup, hr2, Int.toNat_natCast, ↓If_lit, eT, ↓If_lit, PCall, reduceSub, reduceCtorEq, eA, Nat.beq, List.toArray, reduceAdd, reduceLT, reduceLeDiff, reduceToNat]
      all_goals repeat' first
        | (refine If.mk (fun q => ?_) (fun q => ?_))
        | (show In64 _; exact ⟨by omega, by omega⟩)
        | (with_reducible refine And.intro ?_ ?_)
        | omega
        | exact hck
        | (refine Fun.plain (ec) rfl rfl rfl rfl ?_; simp only [hT, hup, hr2, Int.toNat_natCast, ↓If_lit, eT, ↓If_lit, PCall, reduceSub, reduceCtorEq, eA, Nat.beq, List.toArray, reduceAdd, reduceLT, reduceLeDiff, reduceToNat])
        | (refine Fun.plain (e2) rfl rfl rfl rfl ?_; simp only [hT, hup, hr2, Int.toNat_natCast, ↓If_lit, eT, ↓If_lit, PCall, reduceSub, reduceCtorEq, eA, Nat.beq, List.toArray, reduceAdd, reduceLT, reduceLeDiff, reduceToNat])
        | (refine Fun.lent e3 (by simp only [Int.cast_ofNat_Int, List.map_cons, List.map_nil, pur, geth, Nat.beq, cond_true, cond_false, rdR_byt, rdL, AV.rd, AV.nbV, AV.nb, rdR_int, rdR_byt]; rfl) (by rfl) rfl rfl rfl ?_; simp only [hT, hup, hr2, ↓If_lit, eT, ↓If_lit, PCall, reduceSub, reduceCtorEq, eA, Nat.beq, List.toArray, reduceAdd, reduceLT, reduceLeDiff, reduceToNat])
      all_goals clear ec e2 e3 hr1 hr2
      all_goals try simp only [Bool.not_eq_true', Bool.not_eq_false'] at *
      all_goals first
        | exact hbad (by clear hbad; rw [hat]; simp only [*, eQ]; done)
        | (have hok : cellsAt p n a k = true := by clear hbad; rw [hat]; simp only [*, eQ]; done
           try refine And.intro (show In64 _ from ⟨by omega, by omega⟩) ?_
           refine ⟨⟨k + 1, hlt, by rw [hta, hp, hok]; rfl⟩, by simp only; omega, Le.of [] (Nat.zero_le _) ?_ ?_ ?_⟩
           · simp only [eL, eH, eG, leO, Nat.beq, reduceLT]
           · simp only [plnS, nodS, eL, eH, eG, leO, Nat.beq, reduceLT]; first | done | rfl | simp | omega
           · simp only [plnS, nodS, eL, eH, eG, leO, Nat.beq, reduceLT])
    · obtain rfl : k = p.cells.length := by omega
      have hf : decide ((p.cells.length : Int) < n.cells.length) = false := decide_eq_false (by omega)
      simp only [hT, hf, plnS, nodS, ↓If_lit, eA, Nat.beq, List.toArray, reduceAdd, reduceLT, reduceLeDiff, reduceToNat]
      repeat intro _
      exact hp.symm
end Go.Proofs.YtjlmfcddbcoimaaGreat.C
