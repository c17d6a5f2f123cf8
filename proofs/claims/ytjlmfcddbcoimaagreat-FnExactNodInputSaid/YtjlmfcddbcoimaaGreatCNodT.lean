/- Whether a node's halves of a tunnel are ok, by the program's text. -/
import Derived.Test.YtjlmfcddbcoimaaGreatCNodJ
set_option maxRecDepth 100000
set_option maxHeartbeats 4000000
set_option linter.unusedSimpArgs false
set_option linter.unusedVariables false
namespace Go.Proofs.YtjlmfcddbcoimaaGreat.C
open Go Go.Av Go.Proofs
open Nat (reduceAdd reduceLT reduceLeDiff reduceSub)
open Int (reduceToNat)
theorem TY_halvesI {P : Program} (hP : P = Tryz.prog) : ((((P.follows .mixedOrders = true) ∧ ((fldT P 37 6 = some ((6, (false, 1)))) ∧ (tyT P 31 = some ((false, 1))))) ∧ ((elT P 31 = some ((true, (4, 32)))) ∧ ((tyT P 201 = some ((true, 4))) ∧ (fldT P 37 7 = some ((7, (false, 1))))))) ∧ (((tyT P 32 = some ((false, 1))) ∧ ((elT P 32 = some ((true, (3, 24)))) ∧ (tyT P 204 = some ((true, 3))))) ∧ ((zeroT P 201 = some (((.int .i64 0) :: ((.int .i64 0) :: ((.int .i64 0) :: ((.int .i64 0) :: [])))))) ∧ ((zeroT P 204 = some (((.int .i64 0) :: ((.int .i64 0) :: ((.int .i64 0) :: []))))) ∧ (fldT P 37 0 = some ((0, (false, 1)))))))) ∧ ((((tyT P 4 = some ((false, 1))) ∧ ((fldT P 201 0 = some ((0, (false, 1)))) ∧ (tyT P 3 = some ((false, 1))))) ∧ ((fldT P 37 1 = some ((1, (false, 1)))) ∧ ((fldT P 201 1 = some ((1, (false, 1)))) ∧ (fldT P 37 8 = some ((8, (true, 2))))))) ∧ (((fldT P 35 0 = some ((0, (false, 1)))) ∧ ((tyT P 33 = some ((false, 1))) ∧ (elT P 33 = some ((false, (1, 8)))))) ∧ ((flatT P 201 4 = true) ∧ ((bldT P 204 = true) ∧ (flatT P 204 3 = true))))) := by subst hP; refine ⟨⟨⟨⟨?_, ⟨?_, ?_⟩⟩, ⟨?_, ⟨?_, ?_⟩⟩⟩, ⟨⟨?_, ⟨?_, ?_⟩⟩, ⟨?_, ⟨?_, ?_⟩⟩⟩⟩, ⟨⟨⟨?_, ⟨?_, ?_⟩⟩, ⟨?_, ⟨?_, ?_⟩⟩⟩, ⟨⟨?_, ⟨?_, ?_⟩⟩, ⟨?_, ⟨?_, ?_⟩⟩⟩⟩⟩ <;> kernel_rfl
theorem halvesI {P : Program} [Known P] (hP : P = Tryz.prog) (p : VPln) (n : VNod) (a : Int) (k : Nat) (hk : k < p.ways.length) (ho : n.outs.length = p.ways.length) (hi : n.inns.length = p.ways.length) (h1 : has (p.way k).1 p.cells.length = true) (h2 : has (p.way k).2.1 p.cells.length = true) (he : has (ends p k) n.heard.1.length = true) : Fun P 187 [.rp (plnS p), .rp (nodS n), .int .i64 a, .int .i64 k] (.bool (halvesB p n a k)) := by
  refine fun_of (fn := Tryz.f187) (hP ▸ Tryz.func187) (by kernel_rfl) (by kernel_rfl) (by kernel_rfl) (by kernel_rfl) ?_
  have hT := TY_halvesI hP
  have hm : P.follows .mixedOrders = true := by subst hP; kernel_rfl
  have hw : has (k : Int) p.ways.length = true := by unfold has; simp; omega
  have h1n : has (p.way (k : Int).toNat).1 p.cells.length = true := by rw [Int.toNat_natCast]; exact h1
  have h2n : has (p.way (k : Int).toNat).2.1 p.cells.length = true := by rw [Int.toNat_natCast]; exact h2
  have fr := farI hP p k a hw h1n h2n
  have en := endsI hP p k hw h2n
  have be := beginsI hP p k hw h1n
  have oo := outOkI hP (n.oh k)
  have op := outOpenI hP 1
  have io := inOkI hP (n.ih k)
  clear hP
  intro hl
  clear hl
  simp only [plnS, nodS, Tryz.f187, hT, eA, Nat.beq, List.toArray, reduceAdd, reduceLT, reduceLeDiff, reduceToNat]
  have hgo : ∀ d, (n.outs.map outE).getD k d = outE (n.oh k) := fun d => getIn outE n.outs k d out0 (by omega)
  have hgi : ∀ d, (n.inns.map innE).getD k d = innE (n.ih k) := fun d => getIn innE n.inns k d inn0 (by omega)
  obtain ⟨he0, he1⟩ := has_iff he
  have hge : ∀ d, (n.heard.1.map intE).getD (ends p k).toNat d = intE (n.heard.1.getD (ends p k).toNat 0) := fun d => getIn intE n.heard.1 _ d 0 (by omega)
  simp only [plnS] at fr en be
  simp only [outE] at oo op
  simp only [innE] at io
  simp only [outE, innE] at hgo hgi
  have hk1 : (0 : Int) ≤ k := by omega
  have hk2 : (k : Int) < n.outs.length := by omega
  have hk3 : (k : Int) < n.inns.length := by omega
  refine wpc_draw (.take 0 (.take 1 (.take 2 (.take 3 (.take 4 (.take 5 (.take 6 (.take 7 (.take 8 (.take 9 (.take 10 (.take 11 (.take 12 (.take 13 (.alt 14 (.alt 15 (.alt 16 (.alt 17 .done .stop) .stop) .stop) (.alt 15 (.alt 14 (.alt 16 (.alt 17 .done .stop) .stop) .stop) .stop)))))))))))))))) hm (by kernel_rfl) ?_
  simp only [hT, hgo, hgi, Int.toNat_natCast, eT, ↓If_lit, PCall, reduceSub, reduceCtorEq, eA, Nat.beq, List.toArray, reduceAdd, reduceLT, reduceLeDiff, reduceToNat]
  (try unfold lim); repeat first | ((with_reducible refine And.intro ?_ ?_); (first | omega | exact ⟨by omega, by omega⟩ | rfl)) | intro _
  repeat' (with_reducible refine And.intro ?_ ?_)
  all_goals
    cases hup : n.up
    · rw [If_lit.2]
      refine wpc_draw (.alt 0 (.alt 1 (.take 2 .done) .stop) (.alt 1 (.alt 0 (.take 2 .done) .stop) .stop)) hm (by kernel_rfl) ?_
      simp only [hT, hup, ↓If_lit, eT, ↓If_lit, reduceSub, reduceCtorEq, eA, Nat.beq, List.toArray, reduceAdd, reduceLT, reduceLeDiff, reduceToNat]
      repeat' first
        | (refine If.mk (fun q => ?_) (fun q => ?_))
        | (with_reducible refine And.intro ?_ ?_)
        | omega
        | (refine Fun.plain op rfl rfl rfl rfl ?_; simp only [hT, hup, ↓If_lit, eT, ↓If_lit, PCall, reduceSub, reduceCtorEq, eA, Nat.beq, List.toArray, reduceAdd, reduceLT, reduceLeDiff, reduceToNat])
            | (refine Fun.plain (en) rfl rfl rfl rfl ?_; simp only [hT, hup, Int.cast_ofNat_Int, ↓If_lit, eA, Nat.beq, List.toArray, reduceAdd, reduceLT, reduceLeDiff, reduceToNat])
        | (refine Fun.plain (be) rfl rfl rfl rfl ?_; simp only [hT, hup, Int.cast_ofNat_Int, ↓If_lit, eA, Nat.beq, List.toArray, reduceAdd, reduceLT, reduceLeDiff, reduceToNat])
        | (refine Fun.plain (io) rfl rfl rfl rfl ?_; simp only [hT, hup, Int.cast_ofNat_Int, ↓If_lit, eA, Nat.beq, List.toArray, reduceAdd, reduceLT, reduceLeDiff, reduceToNat])
        | (refine Fun.pcall (oo) (by exact rfl) rfl rfl rfl rfl ?_; simp only [hT, hup, hge, intE, ↓If_lit, eT, ↓If_lit, reduceSub, reduceCtorEq, eA, Nat.beq, List.toArray, reduceAdd, reduceLT, reduceLeDiff, reduceToNat])
        | (refine Fun.pcall (op) (by exact rfl) rfl rfl rfl rfl ?_; simp only [hT, hup, hge, intE, ↓If_lit, eT, ↓If_lit, reduceSub, reduceCtorEq, eA, Nat.beq, List.toArray, reduceAdd, reduceLT, reduceLeDiff, reduceToNat])
        | (refine Fun.pcall (en) (by exact rfl) rfl rfl rfl rfl ?_; simp only [hT, hup, hge, intE, ↓If_lit, eT, ↓If_lit, reduceSub, reduceCtorEq, eA, Nat.beq, List.toArray, reduceAdd, reduceLT, reduceLeDiff, reduceToNat])
      all_goals ((try simp only [Bool.not_eq_true', Bool.not_eq_false'] at *); unfold halvesB halfO halfI outEq innEq; simp only [hup, *, cond_true, cond_false, eQ]; first | done | rfl)
    · rw [If_lit.1]
      refine Fun.plain (fr) rfl rfl rfl rfl ?_; simp only [hT, eN, ↓If_lit, Int.reduceLT, Int.reduceLE, eA, Nat.beq, List.toArray, reduceAdd, reduceLT, reduceLeDiff, reduceToNat]; (try unfold lim); repeat first | ((with_reducible refine And.intro ?_ ?_); (first | omega | exact ⟨by omega, by omega⟩ | rfl)) | intro _
      refine If.mk (fun qf => ?_) (fun qf => ?_)
      · refine wpc_read [0, 1, 2, 3, 4, 5, 6, 7, 8, 9, 10, 11, 12, 13, 14, 15, 16, 17, 18, 19, 20, 21, 22, 23, 24, 25, 26] hm (by kernel_rfl) ?_
        simp only [hT, hup, hge, intE, ↓If_lit, eT, ↓If_lit, reduceSub, reduceCtorEq, eA, Nat.beq, List.toArray, reduceAdd, reduceLT, reduceLeDiff, reduceToNat]
        repeat' first
          | (refine If.mk (fun q => ?_) (fun q => ?_))
          | (with_reducible refine And.intro ?_ ?_)
          | omega
          | (refine Fun.plain op rfl rfl rfl rfl ?_; simp only [hT, hup, ↓If_lit, eT, ↓If_lit, PCall, reduceSub, reduceCtorEq, eA, Nat.beq, List.toArray, reduceAdd, reduceLT, reduceLeDiff, reduceToNat])
            | (refine Fun.plain (en) rfl rfl rfl rfl ?_; simp only [hT, hup, Int.cast_ofNat_Int, ↓If_lit, eA, Nat.beq, List.toArray, reduceAdd, reduceLT, reduceLeDiff, reduceToNat])
          | (refine Fun.plain (be) rfl rfl rfl rfl ?_; simp only [hT, hup, Int.cast_ofNat_Int, ↓If_lit, eA, Nat.beq, List.toArray, reduceAdd, reduceLT, reduceLeDiff, reduceToNat])
          | (refine Fun.plain (io) rfl rfl rfl rfl ?_; simp only [hT, hup, Int.cast_ofNat_Int, ↓If_lit, eA, Nat.beq, List.toArray, reduceAdd, reduceLT, reduceLeDiff, reduceToNat])
          | (refine Fun.pcall (oo) (by exact rfl) rfl rfl rfl rfl ?_; simp only [hT, hup, hge, intE, ↓If_lit, eT, ↓If_lit, reduceSub, reduceCtorEq, eA, Nat.beq, List.toArray, reduceAdd, reduceLT, reduceLeDiff, reduceToNat])
          | (refine Fun.pcall (op) (by exact rfl) rfl rfl rfl rfl ?_; simp only [hT, hup, hge, intE, ↓If_lit, eT, ↓If_lit, reduceSub, reduceCtorEq, eA, Nat.beq, List.toArray, reduceAdd, reduceLT, reduceLeDiff, reduceToNat])
          | (refine Fun.pcall (en) (by exact rfl) rfl rfl rfl rfl ?_; simp only [hT, hup, hge, intE, ↓If_lit, eT, ↓If_lit, reduceSub, reduceCtorEq, eA, Nat.beq, List.toArray, reduceAdd, reduceLT, reduceLeDiff, reduceToNat])
        all_goals ((try simp only [Bool.not_eq_true', Bool.not_eq_false'] at *); unfold halvesB halfO halfI outEq innEq; simp only [hup, *, cond_true, cond_false, eQ]; first | done | rfl)
      · refine wpc_draw (.alt 0 (.alt 1 (.take 2 .done) .stop) (.alt 1 (.alt 0 (.take 2 .done) .stop) .stop)) hm (by kernel_rfl) ?_
        simp only [hT, hup, ↓If_lit, eT, ↓If_lit, reduceSub, reduceCtorEq, eA, Nat.beq, List.toArray, reduceAdd, reduceLT, reduceLeDiff, reduceToNat]
        repeat' first
          | (refine If.mk (fun q => ?_) (fun q => ?_))
          | (with_reducible refine And.intro ?_ ?_)
          | omega
          | (refine Fun.plain op rfl rfl rfl rfl ?_; simp only [hT, hup, ↓If_lit, eT, ↓If_lit, PCall, reduceSub, reduceCtorEq, eA, Nat.beq, List.toArray, reduceAdd, reduceLT, reduceLeDiff, reduceToNat])
            | (refine Fun.plain (en) rfl rfl rfl rfl ?_; simp only [hT, hup, Int.cast_ofNat_Int, ↓If_lit, eA, Nat.beq, List.toArray, reduceAdd, reduceLT, reduceLeDiff, reduceToNat])
          | (refine Fun.plain (be) rfl rfl rfl rfl ?_; simp only [hT, hup, Int.cast_ofNat_Int, ↓If_lit, eA, Nat.beq, List.toArray, reduceAdd, reduceLT, reduceLeDiff, reduceToNat])
          | (refine Fun.plain (io) rfl rfl rfl rfl ?_; simp only [hT, hup, Int.cast_ofNat_Int, ↓If_lit, eA, Nat.beq, List.toArray, reduceAdd, reduceLT, reduceLeDiff, reduceToNat])
          | (refine Fun.pcall (oo) (by exact rfl) rfl rfl rfl rfl ?_; simp only [hT, hup, hge, intE, ↓If_lit, eT, ↓If_lit, reduceSub, reduceCtorEq, eA, Nat.beq, List.toArray, reduceAdd, reduceLT, reduceLeDiff, reduceToNat])
          | (refine Fun.pcall (op) (by exact rfl) rfl rfl rfl rfl ?_; simp only [hT, hup, hge, intE, ↓If_lit, eT, ↓If_lit, reduceSub, reduceCtorEq, eA, Nat.beq, List.toArray, reduceAdd, reduceLT, reduceLeDiff, reduceToNat])
          | (refine Fun.pcall (en) (by exact rfl) rfl rfl rfl rfl ?_; simp only [hT, hup, hge, intE, ↓If_lit, eT, ↓If_lit, reduceSub, reduceCtorEq, eA, Nat.beq, List.toArray, reduceAdd, reduceLT, reduceLeDiff, reduceToNat])
        all_goals ((try simp only [Bool.not_eq_true', Bool.not_eq_false'] at *); unfold halvesB halfO halfI outEq innEq; simp only [hup, *, cond_true, cond_false, eQ]; first | done | rfl)
end Go.Proofs.YtjlmfcddbcoimaaGreat.C
