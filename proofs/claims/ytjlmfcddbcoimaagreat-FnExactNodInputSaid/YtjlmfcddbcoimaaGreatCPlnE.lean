/- Plans that are the same: the laws see it. -/
import Derived.Test.YtjlmfcddbcoimaaGreatCPlnA
set_option maxRecDepth 100000
set_option linter.unusedSimpArgs false
set_option linter.unusedVariables false
namespace Go.Proofs.YtjlmfcddbcoimaaGreat.C
open Go Go.Av Go.Proofs
open Nat (reduceAdd reduceLT reduceLeDiff reduceSub)
open Int (reduceToNat)
theorem TY_eqLblLabel {P : Program} (hP : P = Tryz.prog) : (fldT P 153 0 = some ((0, (false, 1)))) ∧ ((tyT P 3 = some ((false, 1))) ∧ (fldT P 153 1 = some ((1, (false, 1))))) := by subst hP; refine ⟨?_, ⟨?_, ?_⟩⟩ <;> kernel_rfl
theorem eqLblLabel {P : Program} [Known P] (hP : P = Tryz.prog) (x : VLbl) : Fun P 254 [.agg ((fun x : VLbl => [AV.int .i64 x.1, AV.int .i64 x.2.1]) x), .agg ((fun x : VLbl => [AV.int .i64 x.1, AV.int .i64 x.2.1]) x)] (.bool true) := by
  refine fun_of (fn := Tryz.f254) (hP ▸ Tryz.func254) (by kernel_rfl) (by kernel_rfl) (by kernel_rfl) (by kernel_rfl) ?_
  have hT := TY_eqLblLabel hP
  clear hP
  intro hl
  clear hl
  simp only [Tryz.f254, hT, eq_self, decide_true, beq_self_eq_true, If_lit, eA, Nat.beq, List.toArray, reduceAdd, reduceLT, reduceLeDiff, reduceToNat]
theorem TY_eqVmOrder {P : Program} (hP : P = Tryz.prog) : ((fldT P 274 0 = some ((0, (false, 1)))) ∧ (tyT P 3 = some ((false, 1)))) ∧ ((fldT P 274 1 = some ((1, (false, 1)))) ∧ ((fldT P 274 2 = some ((2, (false, 1)))) ∧ (fldT P 274 3 = some ((3, (false, 1)))))) := by subst hP; refine ⟨⟨?_, ?_⟩, ⟨?_, ⟨?_, ?_⟩⟩⟩ <;> kernel_rfl
theorem eqVmOrder {P : Program} [Known P] (hP : P = Tryz.prog) (x : VOrd) : Fun P 302 [.agg (ordE x), .agg (ordE x)] (.bool true) := by
  refine fun_of (fn := Tryz.f302) (hP ▸ Tryz.func302) (by kernel_rfl) (by kernel_rfl) (by kernel_rfl) (by kernel_rfl) ?_
  have hT := TY_eqVmOrder hP
  clear hP
  intro hl
  clear hl
  simp only [ordE, Tryz.f302, hT, eq_self, decide_true, beq_self_eq_true, If_lit, eA, Nat.beq, List.toArray, reduceAdd, reduceLT, reduceLeDiff, reduceToNat]
theorem TY_eqVmOrderS {P : Program} (hP : P = Tryz.prog) : ((P.follows .mixedOrders = true) ∧ (lkT P 154 = 1)) ∧ ((elT P 154 = some ((true, (4, 32)))) ∧ (tyT P 274 = some ((true, 4)))) := by subst hP; refine ⟨⟨?_, ?_⟩, ⟨?_, ?_⟩⟩ <;> kernel_rfl
theorem eqVmOrderS {P : Program} [Known P] (hP : P = Tryz.prog) (l : List (VOrd)) : Fun P 255 [.sl 4 (l.map ordE) oZ, .sl 4 (l.map ordE) oZ] (.bool true) := by
  refine fun_of (fn := Tryz.f255) (hP ▸ Tryz.func255) (by kernel_rfl) (by kernel_rfl) (by kernel_rfl) (by kernel_rfl) ?_
  have hT := TY_eqVmOrderS hP
  have hm : P.follows .mixedOrders = true := by subst hP; kernel_rfl
  have el := @eqVmOrder P _ hP
  clear hP
  intro hl
  simp only [limL, limA, and_true, List.length_map] at hl
  simp only [Tryz.f255, hT, eq_self, decide_true, If_lit, eA, Nat.beq, List.toArray, reduceAdd, reduceLT, reduceLeDiff, reduceToNat]
  unfold lim at hl
  have hl' := hl
  (try unfold lim); repeat first | ((with_reducible refine And.intro ?_ ?_); (first | omega | exact ⟨by omega, by omega⟩ | rfl)) | intro _
  refine wpc_loop {i : Nat // i ≤ l.length} (fun i => ⟨[(0, .sl 4 (l.map ordE) oZ), (1, .sl 4 (l.map ordE) oZ), (5, .int .i64 i.1)], [], 0⟩) (fun i => l.length - i.1) ⟨0, Nat.zero_le _⟩ (Le.of [] (Nat.zero_le _) ?_ ?_ ?_) ?_
  · simp only [eL, eH, eG, leO, Nat.beq, reduceLT]
  · simp only [eL, eH, eG, leO, Nat.beq, reduceLT] <;> rfl
  · simp only [eL, eH, eG, leO, Nat.beq, reduceLT]
  · rintro ⟨i, hi⟩
    simp only [hT, eA, Nat.beq, List.toArray, reduceAdd, reduceLT, reduceLeDiff, reduceToNat]
    refine fun _ => ⟨fun h => ?_, fun h => trivial⟩
    simp only [decide_eq_true_eq] at h
    have hil : i < l.length := by omega
    have hg : ∀ d, (l.map ordE).getD i d = ordE (l.getD i o0) := fun d => getIn ordE l i d o0 hil
    refine wpc_read [0, 1, 2, 3, 4, 5, 6, 7, 8, 9] hm (by kernel_rfl) ?_
    simp only [hT, hg, ordE, eq_self, decide_true, If_lit, eT, ↓If_lit, reduceSub, reduceCtorEq, eA, Nat.beq, List.toArray, reduceAdd, reduceLT, reduceLeDiff, reduceToNat]
    (try unfold lim); repeat first | ((with_reducible refine And.intro ?_ ?_); (first | omega | exact ⟨by omega, by omega⟩ | rfl)) | intro _
    have ex := el (l.getD i o0)
    try simp only [ordE] at ex
    refine Fun.pcall (ex) (by exact rfl) rfl rfl rfl rfl ?_; simp only [hT, nneg, decide_true, decide_false, ↓If_lit, Int.cast_ofNat_Int, Int.reduceLT, Int.reduceLE, eT, ↓If_lit, reduceSub, reduceCtorEq, eA, Nat.beq, List.toArray, reduceAdd, reduceLT, reduceLeDiff, reduceToNat]; (try unfold lim); repeat first | ((with_reducible refine And.intro ?_ ?_); (first | omega | exact ⟨by omega, by omega⟩ | rfl)) | intro _
    refine ⟨⟨i + 1, hil⟩, by simp only; omega, Le.of [] (Nat.zero_le _) ?_ ?_ ?_⟩
    · simp only [eL, eH, eG, leO, Nat.beq, reduceLT]
    · simp only [eL, eH, eG, leO, Nat.beq, reduceLT] <;> omega
    · simp only [eL, eH, eG, leO, Nat.beq, reduceLT]
theorem TY_eqPlnCell {P : Program} (hP : P = Tryz.prog) : (((fldT P 156 0 = some ((0, (false, 1)))) ∧ (tyT P 3 = some ((false, 1)))) ∧ ((fldT P 156 1 = some ((1, (true, 2)))) ∧ (tyT P 153 = some ((true, 2))))) ∧ (((fldT P 156 2 = some ((3, (false, 1)))) ∧ (tyT P 4 = some ((false, 1)))) ∧ ((bolT P 4 = true) ∧ ((fldT P 156 3 = some ((4, (false, 1)))) ∧ (tyT P 154 = some ((false, 1)))))) := by subst hP; refine ⟨⟨⟨?_, ?_⟩, ⟨?_, ?_⟩⟩, ⟨⟨?_, ?_⟩, ⟨?_, ⟨?_, ?_⟩⟩⟩⟩ <;> kernel_rfl
theorem eqPlnCell {P : Program} [Known P] (hP : P = Tryz.prog) (x : VCell) : Fun P 167 [.agg (cellS x), .agg (cellS x)] (.bool true) := by
  refine fun_of (fn := Tryz.f167) (hP ▸ Tryz.func167) (by kernel_rfl) (by kernel_rfl) (by kernel_rfl) (by kernel_rfl) ?_
  have hT := TY_eqPlnCell hP
  have e0 := @eqLblLabel P _ hP
  have e1 := @eqVmOrderS P _ hP
  clear hP
  intro hl
  clear hl
  simp only [cellS, Tryz.f167, hT, eq_self, decide_true, beq_self_eq_true, If_lit, eA, Nat.beq, List.toArray, reduceAdd, reduceLT, reduceLeDiff, reduceToNat]
  refine Fun.plain (e0 x.2.1) rfl rfl rfl rfl ?_
  simp only [hT, eq_self, decide_true, beq_self_eq_true, If_lit, eA, Nat.beq, List.toArray, reduceAdd, reduceLT, reduceLeDiff, reduceToNat]
  refine Fun.plain (e1 _) rfl rfl rfl rfl ?_
  simp only [hT, eq_self, decide_true, beq_self_eq_true, If_lit, eA, Nat.beq, List.toArray, reduceAdd, reduceLT, reduceLeDiff, reduceToNat]
theorem TY_eqPlnCellS {P : Program} (hP : P = Tryz.prog) : ((P.follows .mixedOrders = true) ∧ (lkT P 39 = 1)) ∧ ((elT P 39 = some ((true, (5, 56)))) ∧ (tyT P 156 = some ((true, 5)))) := by subst hP; refine ⟨⟨?_, ?_⟩, ⟨?_, ?_⟩⟩ <;> kernel_rfl
theorem eqPlnCellS {P : Program} [Known P] (hP : P = Tryz.prog) (l : List (VCell)) (d : List AV) : Fun P 69 [.sl 5 (l.map cellS) d, .sl 5 (l.map cellS) d] (.bool true) := by
  refine fun_of (fn := Tryz.f69) (hP ▸ Tryz.func69) (by kernel_rfl) (by kernel_rfl) (by kernel_rfl) (by kernel_rfl) ?_
  have hT := TY_eqPlnCellS hP
  have hm : P.follows .mixedOrders = true := by subst hP; kernel_rfl
  have el := @eqPlnCell P _ hP
  clear hP
  intro hl
  simp only [limL, limA, and_true, List.length_map] at hl
  simp only [Tryz.f69, hT, eq_self, decide_true, If_lit, eA, Nat.beq, List.toArray, reduceAdd, reduceLT, reduceLeDiff, reduceToNat]
  unfold lim at hl
  have hl' := hl
  (try unfold lim); repeat first | ((with_reducible refine And.intro ?_ ?_); (first | omega | exact ⟨by omega, by omega⟩ | rfl)) | intro _
  refine wpc_loop {i : Nat // i ≤ l.length} (fun i => ⟨[(0, .sl 5 (l.map cellS) d), (1, .sl 5 (l.map cellS) d), (5, .int .i64 i.1)], [], 0⟩) (fun i => l.length - i.1) ⟨0, Nat.zero_le _⟩ (Le.of [] (Nat.zero_le _) ?_ ?_ ?_) ?_
  · simp only [eL, eH, eG, leO, Nat.beq, reduceLT]
  · simp only [eL, eH, eG, leO, Nat.beq, reduceLT] <;> rfl
  · simp only [eL, eH, eG, leO, Nat.beq, reduceLT]
  · rintro ⟨i, hi⟩
    simp only [hT, eA, Nat.beq, List.toArray, reduceAdd, reduceLT, reduceLeDiff, reduceToNat]
    refine fun _ => ⟨fun h => ?_, fun h => trivial⟩
    simp only [decide_eq_true_eq] at h
    have hil : i < l.length := by omega
    have hg : ∀ d, (l.map cellS).getD i d = cellS (l.getD i c0) := fun d => getIn cellS l i d c0 hil
    refine wpc_read [0, 1, 2, 3, 4, 5, 6, 7, 8, 9] hm (by kernel_rfl) ?_
    simp only [hT, hg, cellS, eq_self, decide_true, If_lit, eT, ↓If_lit, reduceSub, reduceCtorEq, eA, Nat.beq, List.toArray, reduceAdd, reduceLT, reduceLeDiff, reduceToNat]
    (try unfold lim); repeat first | ((with_reducible refine And.intro ?_ ?_); (first | omega | exact ⟨by omega, by omega⟩ | rfl)) | intro _
    have ex := el (l.getD i c0)
    try simp only [cellS] at ex
    refine Fun.pcall (ex) (by exact rfl) rfl rfl rfl rfl ?_; simp only [hT, nneg, decide_true, decide_false, ↓If_lit, Int.cast_ofNat_Int, Int.reduceLT, Int.reduceLE, eT, ↓If_lit, reduceSub, reduceCtorEq, eA, Nat.beq, List.toArray, reduceAdd, reduceLT, reduceLeDiff, reduceToNat]; (try unfold lim); repeat first | ((with_reducible refine And.intro ?_ ?_); (first | omega | exact ⟨by omega, by omega⟩ | rfl)) | intro _
    refine ⟨⟨i + 1, hil⟩, by simp only; omega, Le.of [] (Nat.zero_le _) ?_ ?_ ?_⟩
    · simp only [eL, eH, eG, leO, Nat.beq, reduceLT]
    · simp only [eL, eH, eG, leO, Nat.beq, reduceLT] <;> omega
    · simp only [eL, eH, eG, leO, Nat.beq, reduceLT]
theorem TY_eqGrdRule {P : Program} (hP : P = Tryz.prog) : (((fldT P 276 0 = some ((0, (false, 1)))) ∧ (tyT P 3 = some ((false, 1)))) ∧ ((fldT P 276 1 = some ((1, (false, 1)))) ∧ (fldT P 276 2 = some ((2, (false, 1)))))) ∧ (((fldT P 276 3 = some ((3, (false, 1)))) ∧ (fldT P 276 4 = some ((4, (false, 1))))) ∧ ((fldT P 276 5 = some ((5, (false, 1)))) ∧ (fldT P 276 6 = some ((6, (false, 1)))))) := by subst hP; refine ⟨⟨⟨?_, ?_⟩, ⟨?_, ?_⟩⟩, ⟨⟨?_, ?_⟩, ⟨?_, ?_⟩⟩⟩ <;> kernel_rfl
theorem eqGrdRule {P : Program} [Known P] (hP : P = Tryz.prog) (x : VRule) : Fun P 303 [.agg (ruleE x), .agg (ruleE x)] (.bool true) := by
  refine fun_of (fn := Tryz.f303) (hP ▸ Tryz.func303) (by kernel_rfl) (by kernel_rfl) (by kernel_rfl) (by kernel_rfl) ?_
  have hT := TY_eqGrdRule hP
  clear hP
  intro hl
  clear hl
  simp only [ruleE, Tryz.f303, hT, eq_self, decide_true, beq_self_eq_true, If_lit, eA, Nat.beq, List.toArray, reduceAdd, reduceLT, reduceLeDiff, reduceToNat]
theorem TY_eqGrdRuleS {P : Program} (hP : P = Tryz.prog) : ((P.follows .mixedOrders = true) ∧ (lkT P 158 = 1)) ∧ ((elT P 158 = some ((true, (7, 56)))) ∧ (tyT P 276 = some ((true, 7)))) := by subst hP; refine ⟨⟨?_, ?_⟩, ⟨?_, ?_⟩⟩ <;> kernel_rfl
theorem eqGrdRuleS {P : Program} [Known P] (hP : P = Tryz.prog) (l : List (VRule)) : Fun P 256 [.sl 7 (l.map ruleE) rZ, .sl 7 (l.map ruleE) rZ] (.bool true) := by
  refine fun_of (fn := Tryz.f256) (hP ▸ Tryz.func256) (by kernel_rfl) (by kernel_rfl) (by kernel_rfl) (by kernel_rfl) ?_
  have hT := TY_eqGrdRuleS hP
  have hm : P.follows .mixedOrders = true := by subst hP; kernel_rfl
  have el := @eqGrdRule P _ hP
  clear hP
  intro hl
  simp only [limL, limA, and_true, List.length_map] at hl
  simp only [Tryz.f256, hT, eq_self, decide_true, If_lit, eA, Nat.beq, List.toArray, reduceAdd, reduceLT, reduceLeDiff, reduceToNat]
  unfold lim at hl
  have hl' := hl
  (try unfold lim); repeat first | ((with_reducible refine And.intro ?_ ?_); (first | omega | exact ⟨by omega, by omega⟩ | rfl)) | intro _
  refine wpc_loop {i : Nat // i ≤ l.length} (fun i => ⟨[(0, .sl 7 (l.map ruleE) rZ), (1, .sl 7 (l.map ruleE) rZ), (5, .int .i64 i.1)], [], 0⟩) (fun i => l.length - i.1) ⟨0, Nat.zero_le _⟩ (Le.of [] (Nat.zero_le _) ?_ ?_ ?_) ?_
  · simp only [eL, eH, eG, leO, Nat.beq, reduceLT]
  · simp only [eL, eH, eG, leO, Nat.beq, reduceLT] <;> rfl
  · simp only [eL, eH, eG, leO, Nat.beq, reduceLT]
  · rintro ⟨i, hi⟩
    simp only [hT, eA, Nat.beq, List.toArray, reduceAdd, reduceLT, reduceLeDiff, reduceToNat]
    refine fun _ => ⟨fun h => ?_, fun h => trivial⟩
    simp only [decide_eq_true_eq] at h
    have hil : i < l.length := by omega
    have hg : ∀ d, (l.map ruleE).getD i d = ruleE (l.getD i r0) := fun d => getIn ruleE l i d r0 hil
    refine wpc_read [0, 1, 2, 3, 4, 5, 6, 7, 8, 9] hm (by kernel_rfl) ?_
    simp only [hT, hg, ruleE, eq_self, decide_true, If_lit, eT, ↓If_lit, reduceSub, reduceCtorEq, eA, Nat.beq, List.toArray, reduceAdd, reduceLT, reduceLeDiff, reduceToNat]
    (try unfold lim); repeat first | ((with_reducible refine And.intro ?_ ?_); (first | omega | exact ⟨by omega, by omega⟩ | rfl)) | intro _
    have ex := el (l.getD i r0)
    try simp only [ruleE] at ex
    refine Fun.pcall (ex) (by exact rfl) rfl rfl rfl rfl ?_; simp only [hT, nneg, decide_true, decide_false, ↓If_lit, Int.cast_ofNat_Int, Int.reduceLT, Int.reduceLE, eT, ↓If_lit, reduceSub, reduceCtorEq, eA, Nat.beq, List.toArray, reduceAdd, reduceLT, reduceLeDiff, reduceToNat]; (try unfold lim); repeat first | ((with_reducible refine And.intro ?_ ?_); (first | omega | exact ⟨by omega, by omega⟩ | rfl)) | intro _
    refine ⟨⟨i + 1, hil⟩, by simp only; omega, Le.of [] (Nat.zero_le _) ?_ ?_ ?_⟩
    · simp only [eL, eH, eG, leO, Nat.beq, reduceLT]
    · simp only [eL, eH, eG, leO, Nat.beq, reduceLT] <;> omega
    · simp only [eL, eH, eG, leO, Nat.beq, reduceLT]
theorem TY_eqPlnWay {P : Program} (hP : P = Tryz.prog) : (((fldT P 160 0 = some ((0, (false, 1)))) ∧ (tyT P 3 = some ((false, 1)))) ∧ ((fldT P 160 1 = some ((1, (false, 1)))) ∧ (fldT P 160 2 = some ((2, (false, 1)))))) ∧ (((fldT P 160 3 = some ((3, (false, 1)))) ∧ (tyT P 4 = some ((false, 1)))) ∧ ((bolT P 4 = true) ∧ ((fldT P 160 4 = some ((4, (false, 1)))) ∧ (tyT P 158 = some ((false, 1)))))) := by subst hP; refine ⟨⟨⟨?_, ?_⟩, ⟨?_, ?_⟩⟩, ⟨⟨?_, ?_⟩, ⟨?_, ⟨?_, ?_⟩⟩⟩⟩ <;> kernel_rfl
theorem eqPlnWay {P : Program} [Known P] (hP : P = Tryz.prog) (x : VWay) : Fun P 168 [.agg (wayS x), .agg (wayS x)] (.bool true) := by
  refine fun_of (fn := Tryz.f168) (hP ▸ Tryz.func168) (by kernel_rfl) (by kernel_rfl) (by kernel_rfl) (by kernel_rfl) ?_
  have hT := TY_eqPlnWay hP
  have e0 := @eqGrdRuleS P _ hP
  clear hP
  intro hl
  clear hl
  simp only [wayS, Tryz.f168, hT, eq_self, decide_true, beq_self_eq_true, If_lit, eA, Nat.beq, List.toArray, reduceAdd, reduceLT, reduceLeDiff, reduceToNat]
  refine Fun.plain (e0 _) rfl rfl rfl rfl ?_
  simp only [hT, eq_self, decide_true, beq_self_eq_true, If_lit, eA, Nat.beq, List.toArray, reduceAdd, reduceLT, reduceLeDiff, reduceToNat]
theorem TY_eqPlnWayS {P : Program} (hP : P = Tryz.prog) : ((P.follows .mixedOrders = true) ∧ (lkT P 40 = 1)) ∧ ((elT P 40 = some ((true, (5, 56)))) ∧ (tyT P 160 = some ((true, 5)))) := by subst hP; refine ⟨⟨?_, ?_⟩, ⟨?_, ?_⟩⟩ <;> kernel_rfl
theorem eqPlnWayS {P : Program} [Known P] (hP : P = Tryz.prog) (l : List (VWay)) (d : List AV) : Fun P 70 [.sl 5 (l.map wayS) d, .sl 5 (l.map wayS) d] (.bool true) := by
  refine fun_of (fn := Tryz.f70) (hP ▸ Tryz.func70) (by kernel_rfl) (by kernel_rfl) (by kernel_rfl) (by kernel_rfl) ?_
  have hT := TY_eqPlnWayS hP
  have hm : P.follows .mixedOrders = true := by subst hP; kernel_rfl
  have el := @eqPlnWay P _ hP
  clear hP
  intro hl
  simp only [limL, limA, and_true, List.length_map] at hl
  simp only [Tryz.f70, hT, eq_self, decide_true, If_lit, eA, Nat.beq, List.toArray, reduceAdd, reduceLT, reduceLeDiff, reduceToNat]
  unfold lim at hl
  have hl' := hl
  (try unfold lim); repeat first | ((with_reducible refine And.intro ?_ ?_); (first | omega | exact ⟨by omega, by omega⟩ | rfl)) | intro _
  refine wpc_loop {i : Nat // i ≤ l.length} (fun i => ⟨[(0, .sl 5 (l.map wayS) d), (1, .sl 5 (l.map wayS) d), (5, .int .i64 i.1)], [], 0⟩) (fun i => l.length - i.1) ⟨0, Nat.zero_le _⟩ (Le.of [] (Nat.zero_le _) ?_ ?_ ?_) ?_
  · simp only [eL, eH, eG, leO, Nat.beq, reduceLT]
  · simp only [eL, eH, eG, leO, Nat.beq, reduceLT] <;> rfl
  · simp only [eL, eH, eG, leO, Nat.beq, reduceLT]
  · rintro ⟨i, hi⟩
    simp only [hT, eA, Nat.beq, List.toArray, reduceAdd, reduceLT, reduceLeDiff, reduceToNat]
    refine fun _ => ⟨fun h => ?_, fun h => trivial⟩
    simp only [decide_eq_true_eq] at h
    have hil : i < l.length := by omega
    have hg : ∀ d, (l.map wayS).getD i d = wayS (l.getD i w0) := fun d => getIn wayS l i d w0 hil
    refine wpc_read [0, 1, 2, 3, 4, 5, 6, 7, 8, 9] hm (by kernel_rfl) ?_
    simp only [hT, hg, wayS, eq_self, decide_true, If_lit, eT, ↓If_lit, reduceSub, reduceCtorEq, eA, Nat.beq, List.toArray, reduceAdd, reduceLT, reduceLeDiff, reduceToNat]
    (try unfold lim); repeat first | ((with_reducible refine And.intro ?_ ?_); (first | omega | exact ⟨by omega, by omega⟩ | rfl)) | intro _
    have ex := el (l.getD i w0)
    try simp only [wayS] at ex
    refine Fun.pcall (ex) (by exact rfl) rfl rfl rfl rfl ?_; simp only [hT, nneg, decide_true, decide_false, ↓If_lit, Int.cast_ofNat_Int, Int.reduceLT, Int.reduceLE, eT, ↓If_lit, reduceSub, reduceCtorEq, eA, Nat.beq, List.toArray, reduceAdd, reduceLT, reduceLeDiff, reduceToNat]; (try unfold lim); repeat first | ((with_reducible refine And.intro ?_ ?_); (first | omega | exact ⟨by omega, by omega⟩ | rfl)) | intro _
    refine ⟨⟨i + 1, hil⟩, by simp only; omega, Le.of [] (Nat.zero_le _) ?_ ?_ ?_⟩
    · simp only [eL, eH, eG, leO, Nat.beq, reduceLT]
    · simp only [eL, eH, eG, leO, Nat.beq, reduceLT] <;> omega
    · simp only [eL, eH, eG, leO, Nat.beq, reduceLT]
theorem TY_eqPlnSlot {P : Program} (hP : P = Tryz.prog) : (fldT P 208 0 = some ((0, (false, 1)))) ∧ ((tyT P 3 = some ((false, 1))) ∧ (fldT P 208 1 = some ((1, (false, 1))))) := by subst hP; refine ⟨?_, ⟨?_, ?_⟩⟩ <;> kernel_rfl
theorem eqPlnSlot {P : Program} [Known P] (hP : P = Tryz.prog) (x : VSlot) : Fun P 169 [.agg (slotE x), .agg (slotE x)] (.bool true) := by
  refine fun_of (fn := Tryz.f169) (hP ▸ Tryz.func169) (by kernel_rfl) (by kernel_rfl) (by kernel_rfl) (by kernel_rfl) ?_
  have hT := TY_eqPlnSlot hP
  clear hP
  intro hl
  clear hl
  simp only [slotE, Tryz.f169, hT, eq_self, decide_true, beq_self_eq_true, If_lit, eA, Nat.beq, List.toArray, reduceAdd, reduceLT, reduceLeDiff, reduceToNat]
theorem TY_eqPlnSlotS {P : Program} (hP : P = Tryz.prog) : ((P.follows .mixedOrders = true) ∧ (lkT P 41 = 1)) ∧ ((elT P 41 = some ((true, (2, 16)))) ∧ (tyT P 208 = some ((true, 2)))) := by subst hP; refine ⟨⟨?_, ?_⟩, ⟨?_, ?_⟩⟩ <;> kernel_rfl
theorem eqPlnSlotS {P : Program} [Known P] (hP : P = Tryz.prog) (l : List (VSlot)) : Fun P 71 [.sl 2 (l.map slotE) sZ, .sl 2 (l.map slotE) sZ] (.bool true) := by
  refine fun_of (fn := Tryz.f71) (hP ▸ Tryz.func71) (by kernel_rfl) (by kernel_rfl) (by kernel_rfl) (by kernel_rfl) ?_
  have hT := TY_eqPlnSlotS hP
  have hm : P.follows .mixedOrders = true := by subst hP; kernel_rfl
  have el := @eqPlnSlot P _ hP
  clear hP
  intro hl
  simp only [limL, limA, and_true, List.length_map] at hl
  simp only [Tryz.f71, hT, eq_self, decide_true, If_lit, eA, Nat.beq, List.toArray, reduceAdd, reduceLT, reduceLeDiff, reduceToNat]
  unfold lim at hl
  have hl' := hl
  (try unfold lim); repeat first | ((with_reducible refine And.intro ?_ ?_); (first | omega | exact ⟨by omega, by omega⟩ | rfl)) | intro _
  refine wpc_loop {i : Nat // i ≤ l.length} (fun i => ⟨[(0, .sl 2 (l.map slotE) sZ), (1, .sl 2 (l.map slotE) sZ), (5, .int .i64 i.1)], [], 0⟩) (fun i => l.length - i.1) ⟨0, Nat.zero_le _⟩ (Le.of [] (Nat.zero_le _) ?_ ?_ ?_) ?_
  · simp only [eL, eH, eG, leO, Nat.beq, reduceLT]
  · simp only [eL, eH, eG, leO, Nat.beq, reduceLT] <;> rfl
  · simp only [eL, eH, eG, leO, Nat.beq, reduceLT]
  · rintro ⟨i, hi⟩
    simp only [hT, eA, Nat.beq, List.toArray, reduceAdd, reduceLT, reduceLeDiff, reduceToNat]
    refine fun _ => ⟨fun h => ?_, fun h => trivial⟩
    simp only [decide_eq_true_eq] at h
    have hil : i < l.length := by omega
    have hg : ∀ d, (l.map slotE).getD i d = slotE (l.getD i s0) := fun d => getIn slotE l i d s0 hil
    refine wpc_read [0, 1, 2, 3, 4, 5, 6, 7, 8, 9] hm (by kernel_rfl) ?_
    simp only [hT, hg, slotE, eq_self, decide_true, If_lit, eT, ↓If_lit, reduceSub, reduceCtorEq, eA, Nat.beq, List.toArray, reduceAdd, reduceLT, reduceLeDiff, reduceToNat]
    (try unfold lim); repeat first | ((with_reducible refine And.intro ?_ ?_); (first | omega | exact ⟨by omega, by omega⟩ | rfl)) | intro _
    have ex := el (l.getD i s0)
    try simp only [slotE] at ex
    refine Fun.pcall (ex) (by exact rfl) rfl rfl rfl rfl ?_; simp only [hT, nneg, decide_true, decide_false, ↓If_lit, Int.cast_ofNat_Int, Int.reduceLT, Int.reduceLE, eT, ↓If_lit, reduceSub, reduceCtorEq, eA, Nat.beq, List.toArray, reduceAdd, reduceLT, reduceLeDiff, reduceToNat]; (try unfold lim); repeat first | ((with_reducible refine And.intro ?_ ?_); (first | omega | exact ⟨by omega, by omega⟩ | rfl)) | intro _
    refine ⟨⟨i + 1, hil⟩, by simp only; omega, Le.of [] (Nat.zero_le _) ?_ ?_ ?_⟩
    · simp only [eL, eH, eG, leO, Nat.beq, reduceLT]
    · simp only [eL, eH, eG, leO, Nat.beq, reduceLT] <;> omega
    · simp only [eL, eH, eG, leO, Nat.beq, reduceLT]
theorem TY_eqIntS {P : Program} (hP : P = Tryz.prog) : ((P.follows .mixedOrders = true) ∧ (lkT P 33 = 1)) ∧ ((elT P 33 = some ((false, (1, 8)))) ∧ (tyT P 3 = some ((false, 1)))) := by subst hP; refine ⟨⟨?_, ?_⟩, ⟨?_, ?_⟩⟩ <;> kernel_rfl
theorem eqIntS {P : Program} [Known P] (hP : P = Tryz.prog) (l : List (Int)) : Fun P 166 [.sl 1 (l.map intE) iZ, .sl 1 (l.map intE) iZ] (.bool true) := by
  refine fun_of (fn := Tryz.f166) (hP ▸ Tryz.func166) (by kernel_rfl) (by kernel_rfl) (by kernel_rfl) (by kernel_rfl) ?_
  have hT := TY_eqIntS hP
  have hm : P.follows .mixedOrders = true := by subst hP; kernel_rfl
  clear hP
  intro hl
  simp only [limL, limA, and_true, List.length_map] at hl
  simp only [Tryz.f166, hT, eq_self, decide_true, If_lit, eA, Nat.beq, List.toArray, reduceAdd, reduceLT, reduceLeDiff, reduceToNat]
  unfold lim at hl
  have hl' := hl
  (try unfold lim); repeat first | ((with_reducible refine And.intro ?_ ?_); (first | omega | exact ⟨by omega, by omega⟩ | rfl)) | intro _
  refine wpc_loop {i : Nat // i ≤ l.length} (fun i => ⟨[(0, .sl 1 (l.map intE) iZ), (1, .sl 1 (l.map intE) iZ), (5, .int .i64 i.1)], [], 0⟩) (fun i => l.length - i.1) ⟨0, Nat.zero_le _⟩ (Le.of [] (Nat.zero_le _) ?_ ?_ ?_) ?_
  · simp only [eL, eH, eG, leO, Nat.beq, reduceLT]
  · simp only [eL, eH, eG, leO, Nat.beq, reduceLT] <;> rfl
  · simp only [eL, eH, eG, leO, Nat.beq, reduceLT]
  · rintro ⟨i, hi⟩
    simp only [hT, eA, Nat.beq, List.toArray, reduceAdd, reduceLT, reduceLeDiff, reduceToNat]
    refine fun _ => ⟨fun h => ?_, fun h => trivial⟩
    simp only [decide_eq_true_eq] at h
    have hil : i < l.length := by omega
    have hg : ∀ d, (l.map intE).getD i d = intE (l.getD i 0) := fun d => getIn intE l i d 0 hil
    refine wpc_read [0, 1, 2, 3, 4, 5, 6, 7, 8] hm (by kernel_rfl) ?_
    simp only [hT, hg, intE, eq_self, decide_true, If_lit, eT, ↓If_lit, reduceSub, reduceCtorEq, eA, Nat.beq, List.toArray, reduceAdd, reduceLT, reduceLeDiff, reduceToNat]
    (try unfold lim); repeat first | ((with_reducible refine And.intro ?_ ?_); (first | omega | exact ⟨by omega, by omega⟩ | rfl)) | intro _
    refine ⟨⟨i + 1, hil⟩, by simp only; omega, Le.of [] (Nat.zero_le _) ?_ ?_ ?_⟩
    · simp only [eL, eH, eG, leO, Nat.beq, reduceLT]
    · simp only [eL, eH, eG, leO, Nat.beq, reduceLT] <;> omega
    · simp only [eL, eH, eG, leO, Nat.beq, reduceLT]
theorem TY_eqIntSS {P : Program} (hP : P = Tryz.prog) : ((P.follows .mixedOrders = true) ∧ (lkT P 25 = 1)) ∧ ((elT P 25 = some ((false, (1, 24)))) ∧ (tyT P 33 = some ((false, 1)))) := by subst hP; refine ⟨⟨?_, ?_⟩, ⟨?_, ?_⟩⟩ <;> kernel_rfl
theorem eqIntSS {P : Program} [Known P] (hP : P = Tryz.prog) (l : List (List Int)) (d : List AV) : Fun P 72 [.sl 1 (l.map turnS) d, .sl 1 (l.map turnS) d] (.bool true) := by
  refine fun_of (fn := Tryz.f72) (hP ▸ Tryz.func72) (by kernel_rfl) (by kernel_rfl) (by kernel_rfl) (by kernel_rfl) ?_
  have hT := TY_eqIntSS hP
  have hm : P.follows .mixedOrders = true := by subst hP; kernel_rfl
  have el := @eqIntS P _ hP
  clear hP
  intro hl
  simp only [limL, limA, and_true, List.length_map] at hl
  simp only [Tryz.f72, hT, eq_self, decide_true, If_lit, eA, Nat.beq, List.toArray, reduceAdd, reduceLT, reduceLeDiff, reduceToNat]
  unfold lim at hl
  have hl' := hl
  (try unfold lim); repeat first | ((with_reducible refine And.intro ?_ ?_); (first | omega | exact ⟨by omega, by omega⟩ | rfl)) | intro _
  refine wpc_loop {i : Nat // i ≤ l.length} (fun i => ⟨[(0, .sl 1 (l.map turnS) d), (1, .sl 1 (l.map turnS) d), (5, .int .i64 i.1)], [], 0⟩) (fun i => l.length - i.1) ⟨0, Nat.zero_le _⟩ (Le.of [] (Nat.zero_le _) ?_ ?_ ?_) ?_
  · simp only [eL, eH, eG, leO, Nat.beq, reduceLT]
  · simp only [eL, eH, eG, leO, Nat.beq, reduceLT] <;> rfl
  · simp only [eL, eH, eG, leO, Nat.beq, reduceLT]
  · rintro ⟨i, hi⟩
    simp only [hT, eA, Nat.beq, List.toArray, reduceAdd, reduceLT, reduceLeDiff, reduceToNat]
    refine fun _ => ⟨fun h => ?_, fun h => trivial⟩
    simp only [decide_eq_true_eq] at h
    have hil : i < l.length := by omega
    have hg : ∀ d, (l.map turnS).getD i d = turnS (l.getD i []) := fun d => getIn turnS l i d [] hil
    refine wpc_read [0, 1, 2, 3, 4, 5, 6, 7, 8, 9] hm (by kernel_rfl) ?_
    simp only [hT, hg, turnS, eq_self, decide_true, If_lit, eT, ↓If_lit, reduceSub, reduceCtorEq, eA, Nat.beq, List.toArray, reduceAdd, reduceLT, reduceLeDiff, reduceToNat]
    (try unfold lim); repeat first | ((with_reducible refine And.intro ?_ ?_); (first | omega | exact ⟨by omega, by omega⟩ | rfl)) | intro _
    have ex := el (l.getD i [])
    try simp only [turnS] at ex
    refine Fun.pcall (ex) (by exact rfl) rfl rfl rfl rfl ?_; simp only [hT, nneg, decide_true, decide_false, ↓If_lit, Int.cast_ofNat_Int, Int.reduceLT, Int.reduceLE, eT, ↓If_lit, reduceSub, reduceCtorEq, eA, Nat.beq, List.toArray, reduceAdd, reduceLT, reduceLeDiff, reduceToNat]; (try unfold lim); repeat first | ((with_reducible refine And.intro ?_ ?_); (first | omega | exact ⟨by omega, by omega⟩ | rfl)) | intro _
    refine ⟨⟨i + 1, hil⟩, by simp only; omega, Le.of [] (Nat.zero_le _) ?_ ?_ ?_⟩
    · simp only [eL, eH, eG, leO, Nat.beq, reduceLT]
    · simp only [eL, eH, eG, leO, Nat.beq, reduceLT] <;> omega
    · simp only [eL, eH, eG, leO, Nat.beq, reduceLT]
theorem TY_eqPlnPlan {P : Program} (hP : P = Tryz.prog) : (((fldT P 43 0 = some ((0, (false, 1)))) ∧ ((tyT P 3 = some ((false, 1))) ∧ (fldT P 43 1 = some ((1, (false, 1)))))) ∧ ((fldT P 43 2 = some ((2, (false, 1)))) ∧ ((fldT P 43 3 = some ((3, (false, 1)))) ∧ (tyT P 39 = some ((false, 1)))))) ∧ (((fldT P 43 4 = some ((4, (false, 1)))) ∧ ((tyT P 40 = some ((false, 1))) ∧ (fldT P 43 5 = some ((5, (false, 1)))))) ∧ ((tyT P 41 = some ((false, 1))) ∧ ((fldT P 43 6 = some ((6, (false, 1)))) ∧ (tyT P 25 = some ((false, 1)))))) := by subst hP; refine ⟨⟨⟨?_, ⟨?_, ?_⟩⟩, ⟨?_, ⟨?_, ?_⟩⟩⟩, ⟨⟨?_, ⟨?_, ?_⟩⟩, ⟨?_, ⟨?_, ?_⟩⟩⟩⟩ <;> kernel_rfl
theorem eqPlnPlan {P : Program} [Known P] (hP : P = Tryz.prog) (x : VPln) : Fun P 18 [.agg (plnS x), .agg (plnS x)] (.bool true) := by
  refine fun_of (fn := Tryz.f18) (hP ▸ Tryz.func18) (by kernel_rfl) (by kernel_rfl) (by kernel_rfl) (by kernel_rfl) ?_
  have hT := TY_eqPlnPlan hP
  have e0 := @eqPlnCellS P _ hP
  have e1 := @eqPlnWayS P _ hP
  have e2 := @eqPlnSlotS P _ hP
  have e3 := @eqIntSS P _ hP
  clear hP
  intro hl
  clear hl
  simp only [plnS, Tryz.f18, hT, eq_self, decide_true, beq_self_eq_true, If_lit, eA, Nat.beq, List.toArray, reduceAdd, reduceLT, reduceLeDiff, reduceToNat]
  refine Fun.plain (e0 _ _) rfl rfl rfl rfl ?_
  simp only [hT, eq_self, decide_true, beq_self_eq_true, If_lit, eA, Nat.beq, List.toArray, reduceAdd, reduceLT, reduceLeDiff, reduceToNat]
  refine Fun.plain (e1 _ _) rfl rfl rfl rfl ?_
  simp only [hT, eq_self, decide_true, beq_self_eq_true, If_lit, eA, Nat.beq, List.toArray, reduceAdd, reduceLT, reduceLeDiff, reduceToNat]
  refine Fun.plain (e2 _) rfl rfl rfl rfl ?_
  simp only [hT, eq_self, decide_true, beq_self_eq_true, If_lit, eA, Nat.beq, List.toArray, reduceAdd, reduceLT, reduceLeDiff, reduceToNat]
  refine Fun.plain (e3 _ _) rfl rfl rfl rfl ?_
  simp only [hT, eq_self, decide_true, beq_self_eq_true, If_lit, eA, Nat.beq, List.toArray, reduceAdd, reduceLT, reduceLeDiff, reduceToNat]
end Go.Proofs.YtjlmfcddbcoimaaGreat.C
