/- Nodes that are the same: the laws see it. -/
import Derived.Test.YtjlmfcddbcoimaaGreatCNodA
import Derived.Test.YtjlmfcddbcoimaaGreatCPlnE
set_option maxRecDepth 100000
set_option maxHeartbeats 4000000
set_option linter.unusedSimpArgs false
set_option linter.unusedVariables false
namespace Go.Proofs.YtjlmfcddbcoimaaGreat.C
open Go Go.Av Go.Proofs
open Nat (reduceAdd reduceLT reduceLeDiff reduceSub)
open Int (reduceToNat)
theorem eqByteT {P : Program} [Known P] (hP : P = Tryz.prog) (l : List UInt8) : Fun P 214 [B l, B l] (.bool true) := by
  have := eqByteS hP l l
  simpa using this
theorem TY_eqByteSS {P : Program} (hP : P = Tryz.prog) : ((P.follows .mixedOrders = true) ∧ (lkT P 79 = 1)) ∧ ((elT P 79 = some ((false, (1, 24)))) ∧ (tyT P 149 = some ((false, 1)))) := by subst hP; refine ⟨⟨?_, ?_⟩, ⟨?_, ?_⟩⟩ <;> kernel_rfl
theorem eqByteSS {P : Program} [Known P] (hP : P = Tryz.prog) (l : List (List UInt8)) (d : List AV) : Fun P 135 [.sl 1 (l.map msgS) d, .sl 1 (l.map msgS) d] (.bool true) := by
  refine fun_of (fn := Tryz.f135) (hP ▸ Tryz.func135) (by kernel_rfl) (by kernel_rfl) (by kernel_rfl) (by kernel_rfl) ?_
  have hT := TY_eqByteSS hP
  have hm : P.follows .mixedOrders = true := by subst hP; kernel_rfl
  have el := @eqByteT P _ hP
  clear hP
  intro hl
  simp only [limL, limA, and_true, List.length_map] at hl
  simp only [Tryz.f135, hT, eq_self, decide_true, If_lit, eA, Nat.beq, List.toArray, reduceAdd, reduceLT, reduceLeDiff, reduceToNat]
  unfold lim at hl
  have hl' := hl
  (try unfold lim); repeat first | ((with_reducible refine And.intro ?_ ?_); (first | omega | exact ⟨by omega, by omega⟩ | rfl)) | intro _
  refine wpc_loop {i : Nat // i ≤ l.length} (fun i => ⟨[(0, .sl 1 (l.map msgS) d), (1, .sl 1 (l.map msgS) d), (5, .int .i64 i.1)], [], 0⟩) (fun i => l.length - i.1) ⟨0, Nat.zero_le _⟩ (Le.of [] (Nat.zero_le _) ?_ ?_ ?_) ?_
  · simp only [eL, eH, eG, leO, Nat.beq, reduceLT]
  · simp only [eL, eH, eG, leO, Nat.beq, reduceLT] <;> rfl
  · simp only [eL, eH, eG, leO, Nat.beq, reduceLT]
  · rintro ⟨i, hi⟩
    simp only [hT, eA, Nat.beq, List.toArray, reduceAdd, reduceLT, reduceLeDiff, reduceToNat]
    refine fun _ => ⟨fun h => ?_, fun h => trivial⟩
    simp only [decide_eq_true_eq] at h
    have hil : i < l.length := by omega
    have hg : ∀ d, (l.map msgS).getD i d = msgS (l.getD i []) := fun d => getIn msgS l i d [] hil
    refine wpc_read [0, 1, 2, 3, 4, 5, 6, 7, 8, 9] hm (by kernel_rfl) ?_
    simp only [hT, hg, msgS, eq_self, decide_true, If_lit, eT, ↓If_lit, reduceSub, reduceCtorEq, eA, Nat.beq, List.toArray, reduceAdd, reduceLT, reduceLeDiff, reduceToNat]
    (try unfold lim); repeat first | ((with_reducible refine And.intro ?_ ?_); (first | omega | exact ⟨by omega, by omega⟩ | rfl)) | intro _
    have ex := el (l.getD i [])
    try simp only [msgS] at ex
    refine Fun.pcall (ex) (by exact rfl) rfl rfl rfl rfl ?_; simp only [hT, nneg, decide_true, decide_false, ↓If_lit, Int.cast_ofNat_Int, Int.reduceLT, Int.reduceLE, eT, ↓If_lit, reduceSub, reduceCtorEq, eA, Nat.beq, List.toArray, reduceAdd, reduceLT, reduceLeDiff, reduceToNat]; (try unfold lim); repeat first | ((with_reducible refine And.intro ?_ ?_); (first | omega | exact ⟨by omega, by omega⟩ | rfl)) | intro _
    refine ⟨⟨i + 1, hil⟩, by simp only; omega, Le.of [] (Nat.zero_le _) ?_ ?_ ?_⟩
    · simp only [eL, eH, eG, leO, Nat.beq, reduceLT]
    · simp only [eL, eH, eG, leO, Nat.beq, reduceLT] <;> omega
    · simp only [eL, eH, eG, leO, Nat.beq, reduceLT]
theorem TY_eqVmState {P : Program} (hP : P = Tryz.prog) : ((fldT P 148 0 = some ((0, (false, 1)))) ∧ ((tyT P 3 = some ((false, 1))) ∧ (fldT P 148 1 = some ((1, (false, 1)))))) ∧ ((tyT P 33 = some ((false, 1))) ∧ ((fldT P 148 2 = some ((2, (false, 1)))) ∧ (fldT P 148 3 = some ((3, (false, 1)))))) := by subst hP; refine ⟨⟨?_, ⟨?_, ?_⟩⟩, ⟨?_, ⟨?_, ?_⟩⟩⟩ <;> kernel_rfl
theorem eqVmState {P : Program} [Known P] (hP : P = Tryz.prog) (x : VSt) : Fun P 253 [.agg (stS x), .agg (stS x)] (.bool true) := by
  refine fun_of (fn := Tryz.f253) (hP ▸ Tryz.func253) (by kernel_rfl) (by kernel_rfl) (by kernel_rfl) (by kernel_rfl) ?_
  have hT := TY_eqVmState hP
  have e0 := @eqIntS P _ hP
  try simp only [stS, stO, hrdS, hrdO] at e0
  have e1 := @eqIntS P _ hP
  try simp only [stS, stO, hrdS, hrdO] at e1
  clear hP
  intro hl
  clear hl
  simp only [stS, Tryz.f253, hT, eq_self, decide_true, beq_self_eq_true, If_lit, eA, Nat.beq, List.toArray, reduceAdd, reduceLT, reduceLeDiff, reduceToNat]
  refine Fun.plain (e0 _) rfl rfl rfl rfl ?_
  simp only [hT, eq_self, decide_true, beq_self_eq_true, If_lit, eA, Nat.beq, List.toArray, reduceAdd, reduceLT, reduceLeDiff, reduceToNat]
  refine Fun.plain (e1 _) rfl rfl rfl rfl ?_
  simp only [hT, eq_self, decide_true, beq_self_eq_true, If_lit, eA, Nat.beq, List.toArray, reduceAdd, reduceLT, reduceLeDiff, reduceToNat]
theorem TY_eqCelCell {P : Program} (hP : P = Tryz.prog) : ((fldT P 151 0 = some ((0, (true, 4)))) ∧ (tyT P 148 = some ((true, 4)))) ∧ ((fldT P 151 1 = some ((4, (false, 1)))) ∧ (tyT P 149 = some ((false, 1)))) := by subst hP; refine ⟨⟨?_, ?_⟩, ⟨?_, ?_⟩⟩ <;> kernel_rfl
theorem eqCelCell {P : Program} [Known P] (hP : P = Tryz.prog) (x : VCel) : Fun P 162 [.agg (celS x), .agg (celS x)] (.bool true) := by
  refine fun_of (fn := Tryz.f162) (hP ▸ Tryz.func162) (by kernel_rfl) (by kernel_rfl) (by kernel_rfl) (by kernel_rfl) ?_
  have hT := TY_eqCelCell hP
  have e0 := @eqVmState P _ hP
  try simp only [stS, stO, hrdS, hrdO] at e0
  have e1 := @eqByteT P _ hP
  try simp only [stS, stO, hrdS, hrdO] at e1
  clear hP
  intro hl
  clear hl
  simp only [celS, Tryz.f162, hT, eq_self, decide_true, beq_self_eq_true, If_lit, eA, Nat.beq, List.toArray, reduceAdd, reduceLT, reduceLeDiff, reduceToNat]
  refine Fun.plain (e0 x.1) rfl rfl rfl rfl ?_
  simp only [hT, eq_self, decide_true, beq_self_eq_true, If_lit, eA, Nat.beq, List.toArray, reduceAdd, reduceLT, reduceLeDiff, reduceToNat]
  refine Fun.plain (e1 _) rfl rfl rfl rfl ?_
  simp only [hT, eq_self, decide_true, beq_self_eq_true, If_lit, eA, Nat.beq, List.toArray, reduceAdd, reduceLT, reduceLeDiff, reduceToNat]
theorem TY_eqCelCellS {P : Program} (hP : P = Tryz.prog) : ((P.follows .mixedOrders = true) ∧ (lkT P 29 = 1)) ∧ ((elT P 29 = some ((true, (5, 88)))) ∧ (tyT P 151 = some ((true, 5)))) := by subst hP; refine ⟨⟨?_, ?_⟩, ⟨?_, ?_⟩⟩ <;> kernel_rfl
theorem eqCelCellS {P : Program} [Known P] (hP : P = Tryz.prog) (l : List (VCel)) (d : List AV) : Fun P 64 [.sl 5 (l.map celS) d, .sl 5 (l.map celS) d] (.bool true) := by
  refine fun_of (fn := Tryz.f64) (hP ▸ Tryz.func64) (by kernel_rfl) (by kernel_rfl) (by kernel_rfl) (by kernel_rfl) ?_
  have hT := TY_eqCelCellS hP
  have hm : P.follows .mixedOrders = true := by subst hP; kernel_rfl
  have el := @eqCelCell P _ hP
  clear hP
  intro hl
  simp only [limL, limA, and_true, List.length_map] at hl
  simp only [Tryz.f64, hT, eq_self, decide_true, If_lit, eA, Nat.beq, List.toArray, reduceAdd, reduceLT, reduceLeDiff, reduceToNat]
  unfold lim at hl
  have hl' := hl
  (try unfold lim); repeat first | ((with_reducible refine And.intro ?_ ?_); (first | omega | exact ⟨by omega, by omega⟩ | rfl)) | intro _
  refine wpc_loop {i : Nat // i ≤ l.length} (fun i => ⟨[(0, .sl 5 (l.map celS) d), (1, .sl 5 (l.map celS) d), (5, .int .i64 i.1)], [], 0⟩) (fun i => l.length - i.1) ⟨0, Nat.zero_le _⟩ (Le.of [] (Nat.zero_le _) ?_ ?_ ?_) ?_
  · simp only [eL, eH, eG, leO, Nat.beq, reduceLT]
  · simp only [eL, eH, eG, leO, Nat.beq, reduceLT] <;> rfl
  · simp only [eL, eH, eG, leO, Nat.beq, reduceLT]
  · rintro ⟨i, hi⟩
    simp only [hT, eA, Nat.beq, List.toArray, reduceAdd, reduceLT, reduceLeDiff, reduceToNat]
    refine fun _ => ⟨fun h => ?_, fun h => trivial⟩
    simp only [decide_eq_true_eq] at h
    have hil : i < l.length := by omega
    have hg : ∀ d, (l.map celS).getD i d = celS (l.getD i cel0) := fun d => getIn celS l i d cel0 hil
    refine wpc_read [0, 1, 2, 3, 4, 5, 6, 7, 8, 9] hm (by kernel_rfl) ?_
    simp only [hT, hg, celS, eq_self, decide_true, If_lit, eT, ↓If_lit, reduceSub, reduceCtorEq, eA, Nat.beq, List.toArray, reduceAdd, reduceLT, reduceLeDiff, reduceToNat]
    (try unfold lim); repeat first | ((with_reducible refine And.intro ?_ ?_); (first | omega | exact ⟨by omega, by omega⟩ | rfl)) | intro _
    have ex := el (l.getD i cel0)
    try simp only [celS] at ex
    refine Fun.pcall (ex) (by exact rfl) rfl rfl rfl rfl ?_; simp only [hT, nneg, decide_true, decide_false, ↓If_lit, Int.cast_ofNat_Int, Int.reduceLT, Int.reduceLE, eT, ↓If_lit, reduceSub, reduceCtorEq, eA, Nat.beq, List.toArray, reduceAdd, reduceLT, reduceLeDiff, reduceToNat]; (try unfold lim); repeat first | ((with_reducible refine And.intro ?_ ?_); (first | omega | exact ⟨by omega, by omega⟩ | rfl)) | intro _
    refine ⟨⟨i + 1, hil⟩, by simp only; omega, Le.of [] (Nat.zero_le _) ?_ ?_ ?_⟩
    · simp only [eL, eH, eG, leO, Nat.beq, reduceLT]
    · simp only [eL, eH, eG, leO, Nat.beq, reduceLT] <;> omega
    · simp only [eL, eH, eG, leO, Nat.beq, reduceLT]
theorem TY_eqBoxBox {P : Program} (hP : P = Tryz.prog) : ((fldT P 163 0 = some ((0, (false, 1)))) ∧ (tyT P 3 = some ((false, 1)))) ∧ ((fldT P 163 1 = some ((1, (false, 1)))) ∧ (tyT P 79 = some ((false, 1)))) := by subst hP; refine ⟨⟨?_, ?_⟩, ⟨?_, ?_⟩⟩ <;> kernel_rfl
theorem eqBoxBox {P : Program} [Known P] (hP : P = Tryz.prog) (x : VBox) : Fun P 163 [.agg (boxS x), .agg (boxS x)] (.bool true) := by
  refine fun_of (fn := Tryz.f163) (hP ▸ Tryz.func163) (by kernel_rfl) (by kernel_rfl) (by kernel_rfl) (by kernel_rfl) ?_
  have hT := TY_eqBoxBox hP
  have e0 := @eqByteSS P _ hP
  try simp only [stS, stO, hrdS, hrdO] at e0
  clear hP
  intro hl
  clear hl
  simp only [boxS, Tryz.f163, hT, eq_self, decide_true, beq_self_eq_true, If_lit, eA, Nat.beq, List.toArray, reduceAdd, reduceLT, reduceLeDiff, reduceToNat]
  refine Fun.plain (e0 _ _) rfl rfl rfl rfl ?_
  simp only [hT, eq_self, decide_true, beq_self_eq_true, If_lit, eA, Nat.beq, List.toArray, reduceAdd, reduceLT, reduceLeDiff, reduceToNat]
theorem TY_eqBoxBoxS {P : Program} (hP : P = Tryz.prog) : ((P.follows .mixedOrders = true) ∧ (lkT P 30 = 1)) ∧ ((elT P 30 = some ((true, (2, 32)))) ∧ (tyT P 163 = some ((true, 2)))) := by subst hP; refine ⟨⟨?_, ?_⟩, ⟨?_, ?_⟩⟩ <;> kernel_rfl
theorem eqBoxBoxS {P : Program} [Known P] (hP : P = Tryz.prog) (l : List (VBox)) (d : List AV) : Fun P 65 [.sl 2 (l.map boxS) d, .sl 2 (l.map boxS) d] (.bool true) := by
  refine fun_of (fn := Tryz.f65) (hP ▸ Tryz.func65) (by kernel_rfl) (by kernel_rfl) (by kernel_rfl) (by kernel_rfl) ?_
  have hT := TY_eqBoxBoxS hP
  have hm : P.follows .mixedOrders = true := by subst hP; kernel_rfl
  have el := @eqBoxBox P _ hP
  clear hP
  intro hl
  simp only [limL, limA, and_true, List.length_map] at hl
  simp only [Tryz.f65, hT, eq_self, decide_true, If_lit, eA, Nat.beq, List.toArray, reduceAdd, reduceLT, reduceLeDiff, reduceToNat]
  unfold lim at hl
  have hl' := hl
  (try unfold lim); repeat first | ((with_reducible refine And.intro ?_ ?_); (first | omega | exact ⟨by omega, by omega⟩ | rfl)) | intro _
  refine wpc_loop {i : Nat // i ≤ l.length} (fun i => ⟨[(0, .sl 2 (l.map boxS) d), (1, .sl 2 (l.map boxS) d), (5, .int .i64 i.1)], [], 0⟩) (fun i => l.length - i.1) ⟨0, Nat.zero_le _⟩ (Le.of [] (Nat.zero_le _) ?_ ?_ ?_) ?_
  · simp only [eL, eH, eG, leO, Nat.beq, reduceLT]
  · simp only [eL, eH, eG, leO, Nat.beq, reduceLT] <;> rfl
  · simp only [eL, eH, eG, leO, Nat.beq, reduceLT]
  · rintro ⟨i, hi⟩
    simp only [hT, eA, Nat.beq, List.toArray, reduceAdd, reduceLT, reduceLeDiff, reduceToNat]
    refine fun _ => ⟨fun h => ?_, fun h => trivial⟩
    simp only [decide_eq_true_eq] at h
    have hil : i < l.length := by omega
    have hg : ∀ d, (l.map boxS).getD i d = boxS (l.getD i box0) := fun d => getIn boxS l i d box0 hil
    refine wpc_read [0, 1, 2, 3, 4, 5, 6, 7, 8, 9] hm (by kernel_rfl) ?_
    simp only [hT, hg, boxS, eq_self, decide_true, If_lit, eT, ↓If_lit, reduceSub, reduceCtorEq, eA, Nat.beq, List.toArray, reduceAdd, reduceLT, reduceLeDiff, reduceToNat]
    (try unfold lim); repeat first | ((with_reducible refine And.intro ?_ ?_); (first | omega | exact ⟨by omega, by omega⟩ | rfl)) | intro _
    have ex := el (l.getD i box0)
    try simp only [boxS] at ex
    refine Fun.pcall (ex) (by exact rfl) rfl rfl rfl rfl ?_; simp only [hT, nneg, decide_true, decide_false, ↓If_lit, Int.cast_ofNat_Int, Int.reduceLT, Int.reduceLE, eT, ↓If_lit, reduceSub, reduceCtorEq, eA, Nat.beq, List.toArray, reduceAdd, reduceLT, reduceLeDiff, reduceToNat]; (try unfold lim); repeat first | ((with_reducible refine And.intro ?_ ?_); (first | omega | exact ⟨by omega, by omega⟩ | rfl)) | intro _
    refine ⟨⟨i + 1, hil⟩, by simp only; omega, Le.of [] (Nat.zero_le _) ?_ ?_ ?_⟩
    · simp only [eL, eH, eG, leO, Nat.beq, reduceLT]
    · simp only [eL, eH, eG, leO, Nat.beq, reduceLT] <;> omega
    · simp only [eL, eH, eG, leO, Nat.beq, reduceLT]
theorem TY_eqOutOut {P : Program} (hP : P = Tryz.prog) : ((fldT P 201 0 = some ((0, (false, 1)))) ∧ (tyT P 3 = some ((false, 1)))) ∧ ((fldT P 201 1 = some ((1, (false, 1)))) ∧ ((fldT P 201 2 = some ((2, (false, 1)))) ∧ (fldT P 201 3 = some ((3, (false, 1)))))) := by subst hP; refine ⟨⟨?_, ?_⟩, ⟨?_, ⟨?_, ?_⟩⟩⟩ <;> kernel_rfl
theorem eqOutOut {P : Program} [Known P] (hP : P = Tryz.prog) (x : VOut) : Fun P 164 [.agg (outE x), .agg (outE x)] (.bool true) := by
  refine fun_of (fn := Tryz.f164) (hP ▸ Tryz.func164) (by kernel_rfl) (by kernel_rfl) (by kernel_rfl) (by kernel_rfl) ?_
  have hT := TY_eqOutOut hP
  clear hP
  intro hl
  clear hl
  simp only [outE, Tryz.f164, hT, eq_self, decide_true, beq_self_eq_true, If_lit, eA, Nat.beq, List.toArray, reduceAdd, reduceLT, reduceLeDiff, reduceToNat]
theorem TY_eqOutOutS {P : Program} (hP : P = Tryz.prog) : ((P.follows .mixedOrders = true) ∧ (lkT P 31 = 1)) ∧ ((elT P 31 = some ((true, (4, 32)))) ∧ (tyT P 201 = some ((true, 4)))) := by subst hP; refine ⟨⟨?_, ?_⟩, ⟨?_, ?_⟩⟩ <;> kernel_rfl
theorem eqOutOutS {P : Program} [Known P] (hP : P = Tryz.prog) (l : List (VOut)) : Fun P 66 [.sl 4 (l.map outE) outZ, .sl 4 (l.map outE) outZ] (.bool true) := by
  refine fun_of (fn := Tryz.f66) (hP ▸ Tryz.func66) (by kernel_rfl) (by kernel_rfl) (by kernel_rfl) (by kernel_rfl) ?_
  have hT := TY_eqOutOutS hP
  have hm : P.follows .mixedOrders = true := by subst hP; kernel_rfl
  have el := @eqOutOut P _ hP
  clear hP
  intro hl
  simp only [limL, limA, and_true, List.length_map] at hl
  simp only [Tryz.f66, hT, eq_self, decide_true, If_lit, eA, Nat.beq, List.toArray, reduceAdd, reduceLT, reduceLeDiff, reduceToNat]
  unfold lim at hl
  have hl' := hl
  (try unfold lim); repeat first | ((with_reducible refine And.intro ?_ ?_); (first | omega | exact ⟨by omega, by omega⟩ | rfl)) | intro _
  refine wpc_loop {i : Nat // i ≤ l.length} (fun i => ⟨[(0, .sl 4 (l.map outE) outZ), (1, .sl 4 (l.map outE) outZ), (5, .int .i64 i.1)], [], 0⟩) (fun i => l.length - i.1) ⟨0, Nat.zero_le _⟩ (Le.of [] (Nat.zero_le _) ?_ ?_ ?_) ?_
  · simp only [eL, eH, eG, leO, Nat.beq, reduceLT]
  · simp only [eL, eH, eG, leO, Nat.beq, reduceLT] <;> rfl
  · simp only [eL, eH, eG, leO, Nat.beq, reduceLT]
  · rintro ⟨i, hi⟩
    simp only [hT, eA, Nat.beq, List.toArray, reduceAdd, reduceLT, reduceLeDiff, reduceToNat]
    refine fun _ => ⟨fun h => ?_, fun h => trivial⟩
    simp only [decide_eq_true_eq] at h
    have hil : i < l.length := by omega
    have hg : ∀ d, (l.map outE).getD i d = outE (l.getD i out0) := fun d => getIn outE l i d out0 hil
    refine wpc_read [0, 1, 2, 3, 4, 5, 6, 7, 8, 9] hm (by kernel_rfl) ?_
    simp only [hT, hg, outE, eq_self, decide_true, If_lit, eT, ↓If_lit, reduceSub, reduceCtorEq, eA, Nat.beq, List.toArray, reduceAdd, reduceLT, reduceLeDiff, reduceToNat]
    (try unfold lim); repeat first | ((with_reducible refine And.intro ?_ ?_); (first | omega | exact ⟨by omega, by omega⟩ | rfl)) | intro _
    have ex := el (l.getD i out0)
    try simp only [outE] at ex
    refine Fun.pcall (ex) (by exact rfl) rfl rfl rfl rfl ?_; simp only [hT, nneg, decide_true, decide_false, ↓If_lit, Int.cast_ofNat_Int, Int.reduceLT, Int.reduceLE, eT, ↓If_lit, reduceSub, reduceCtorEq, eA, Nat.beq, List.toArray, reduceAdd, reduceLT, reduceLeDiff, reduceToNat]; (try unfold lim); repeat first | ((with_reducible refine And.intro ?_ ?_); (first | omega | exact ⟨by omega, by omega⟩ | rfl)) | intro _
    refine ⟨⟨i + 1, hil⟩, by simp only; omega, Le.of [] (Nat.zero_le _) ?_ ?_ ?_⟩
    · simp only [eL, eH, eG, leO, Nat.beq, reduceLT]
    · simp only [eL, eH, eG, leO, Nat.beq, reduceLT] <;> omega
    · simp only [eL, eH, eG, leO, Nat.beq, reduceLT]
theorem TY_eqInIn {P : Program} (hP : P = Tryz.prog) : ((fldT P 204 0 = some ((0, (false, 1)))) ∧ (tyT P 3 = some ((false, 1)))) ∧ ((fldT P 204 1 = some ((1, (false, 1)))) ∧ (fldT P 204 2 = some ((2, (false, 1))))) := by subst hP; refine ⟨⟨?_, ?_⟩, ⟨?_, ?_⟩⟩ <;> kernel_rfl
theorem eqInIn {P : Program} [Known P] (hP : P = Tryz.prog) (x : VInn) : Fun P 165 [.agg (innE x), .agg (innE x)] (.bool true) := by
  refine fun_of (fn := Tryz.f165) (hP ▸ Tryz.func165) (by kernel_rfl) (by kernel_rfl) (by kernel_rfl) (by kernel_rfl) ?_
  have hT := TY_eqInIn hP
  clear hP
  intro hl
  clear hl
  simp only [innE, Tryz.f165, hT, eq_self, decide_true, beq_self_eq_true, If_lit, eA, Nat.beq, List.toArray, reduceAdd, reduceLT, reduceLeDiff, reduceToNat]
theorem TY_eqInInS {P : Program} (hP : P = Tryz.prog) : ((P.follows .mixedOrders = true) ∧ (lkT P 32 = 1)) ∧ ((elT P 32 = some ((true, (3, 24)))) ∧ (tyT P 204 = some ((true, 3)))) := by subst hP; refine ⟨⟨?_, ?_⟩, ⟨?_, ?_⟩⟩ <;> kernel_rfl
theorem eqInInS {P : Program} [Known P] (hP : P = Tryz.prog) (l : List (VInn)) : Fun P 67 [.sl 3 (l.map innE) innZ, .sl 3 (l.map innE) innZ] (.bool true) := by
  refine fun_of (fn := Tryz.f67) (hP ▸ Tryz.func67) (by kernel_rfl) (by kernel_rfl) (by kernel_rfl) (by kernel_rfl) ?_
  have hT := TY_eqInInS hP
  have hm : P.follows .mixedOrders = true := by subst hP; kernel_rfl
  have el := @eqInIn P _ hP
  clear hP
  intro hl
  simp only [limL, limA, and_true, List.length_map] at hl
  simp only [Tryz.f67, hT, eq_self, decide_true, If_lit, eA, Nat.beq, List.toArray, reduceAdd, reduceLT, reduceLeDiff, reduceToNat]
  unfold lim at hl
  have hl' := hl
  (try unfold lim); repeat first | ((with_reducible refine And.intro ?_ ?_); (first | omega | exact ⟨by omega, by omega⟩ | rfl)) | intro _
  refine wpc_loop {i : Nat // i ≤ l.length} (fun i => ⟨[(0, .sl 3 (l.map innE) innZ), (1, .sl 3 (l.map innE) innZ), (5, .int .i64 i.1)], [], 0⟩) (fun i => l.length - i.1) ⟨0, Nat.zero_le _⟩ (Le.of [] (Nat.zero_le _) ?_ ?_ ?_) ?_
  · simp only [eL, eH, eG, leO, Nat.beq, reduceLT]
  · simp only [eL, eH, eG, leO, Nat.beq, reduceLT] <;> rfl
  · simp only [eL, eH, eG, leO, Nat.beq, reduceLT]
  · rintro ⟨i, hi⟩
    simp only [hT, eA, Nat.beq, List.toArray, reduceAdd, reduceLT, reduceLeDiff, reduceToNat]
    refine fun _ => ⟨fun h => ?_, fun h => trivial⟩
    simp only [decide_eq_true_eq] at h
    have hil : i < l.length := by omega
    have hg : ∀ d, (l.map innE).getD i d = innE (l.getD i inn0) := fun d => getIn innE l i d inn0 hil
    refine wpc_read [0, 1, 2, 3, 4, 5, 6, 7, 8, 9] hm (by kernel_rfl) ?_
    simp only [hT, hg, innE, eq_self, decide_true, If_lit, eT, ↓If_lit, reduceSub, reduceCtorEq, eA, Nat.beq, List.toArray, reduceAdd, reduceLT, reduceLeDiff, reduceToNat]
    (try unfold lim); repeat first | ((with_reducible refine And.intro ?_ ?_); (first | omega | exact ⟨by omega, by omega⟩ | rfl)) | intro _
    have ex := el (l.getD i inn0)
    try simp only [innE] at ex
    refine Fun.pcall (ex) (by exact rfl) rfl rfl rfl rfl ?_; simp only [hT, nneg, decide_true, decide_false, ↓If_lit, Int.cast_ofNat_Int, Int.reduceLT, Int.reduceLE, eT, ↓If_lit, reduceSub, reduceCtorEq, eA, Nat.beq, List.toArray, reduceAdd, reduceLT, reduceLeDiff, reduceToNat]; (try unfold lim); repeat first | ((with_reducible refine And.intro ?_ ?_); (first | omega | exact ⟨by omega, by omega⟩ | rfl)) | intro _
    refine ⟨⟨i + 1, hil⟩, by simp only; omega, Le.of [] (Nat.zero_le _) ?_ ?_ ?_⟩
    · simp only [eL, eH, eG, leO, Nat.beq, reduceLT]
    · simp only [eL, eH, eG, leO, Nat.beq, reduceLT] <;> omega
    · simp only [eL, eH, eG, leO, Nat.beq, reduceLT]
theorem TY_eqHrdBook {P : Program} (hP : P = Tryz.prog) : (fldT P 35 0 = some ((0, (false, 1)))) ∧ ((tyT P 33 = some ((false, 1))) ∧ (fldT P 35 1 = some ((1, (false, 1))))) := by subst hP; refine ⟨?_, ⟨?_, ?_⟩⟩ <;> kernel_rfl
theorem eqHrdBook {P : Program} [Known P] (hP : P = Tryz.prog) (x : VHrd) : Fun P 68 [.agg (hrdS x), .agg (hrdS x)] (.bool true) := by
  refine fun_of (fn := Tryz.f68) (hP ▸ Tryz.func68) (by kernel_rfl) (by kernel_rfl) (by kernel_rfl) (by kernel_rfl) ?_
  have hT := TY_eqHrdBook hP
  have e0 := @eqIntS P _ hP
  try simp only [stS, stO, hrdS, hrdO] at e0
  have e1 := @eqIntS P _ hP
  try simp only [stS, stO, hrdS, hrdO] at e1
  clear hP
  intro hl
  clear hl
  simp only [hrdS, Tryz.f68, hT, eq_self, decide_true, beq_self_eq_true, If_lit, eA, Nat.beq, List.toArray, reduceAdd, reduceLT, reduceLeDiff, reduceToNat]
  refine Fun.plain (e0 _) rfl rfl rfl rfl ?_
  simp only [hT, eq_self, decide_true, beq_self_eq_true, If_lit, eA, Nat.beq, List.toArray, reduceAdd, reduceLT, reduceLeDiff, reduceToNat]
  refine Fun.plain (e1 _) rfl rfl rfl rfl ?_
  simp only [hT, eq_self, decide_true, beq_self_eq_true, If_lit, eA, Nat.beq, List.toArray, reduceAdd, reduceLT, reduceLeDiff, reduceToNat]
theorem TY_eqNodNode {P : Program} (hP : P = Tryz.prog) : ((((fldT P 37 0 = some ((0, (false, 1)))) ∧ (tyT P 4 = some ((false, 1)))) ∧ ((bolT P 4 = true) ∧ (fldT P 37 1 = some ((1, (false, 1)))))) ∧ (((tyT P 3 = some ((false, 1))) ∧ (fldT P 37 2 = some ((2, (false, 1))))) ∧ ((fldT P 37 3 = some ((3, (false, 1)))) ∧ (tyT P 29 = some ((false, 1)))))) ∧ ((((fldT P 37 4 = some ((4, (false, 1)))) ∧ (tyT P 30 = some ((false, 1)))) ∧ ((fldT P 37 5 = some ((5, (false, 1)))) ∧ (fldT P 37 6 = some ((6, (false, 1)))))) ∧ (((tyT P 31 = some ((false, 1))) ∧ (fldT P 37 7 = some ((7, (false, 1))))) ∧ ((tyT P 32 = some ((false, 1))) ∧ ((fldT P 37 8 = some ((8, (true, 2)))) ∧ (tyT P 35 = some ((true, 2))))))) := by subst hP; refine ⟨⟨⟨⟨?_, ?_⟩, ⟨?_, ?_⟩⟩, ⟨⟨?_, ?_⟩, ⟨?_, ?_⟩⟩⟩, ⟨⟨⟨?_, ?_⟩, ⟨?_, ?_⟩⟩, ⟨⟨?_, ?_⟩, ⟨?_, ⟨?_, ?_⟩⟩⟩⟩⟩ <;> kernel_rfl
theorem eqNodNode {P : Program} [Known P] (hP : P = Tryz.prog) (x : VNod) : Fun P 17 [.agg (nodS x), .agg (nodS x)] (.bool true) := by
  refine fun_of (fn := Tryz.f17) (hP ▸ Tryz.func17) (by kernel_rfl) (by kernel_rfl) (by kernel_rfl) (by kernel_rfl) ?_
  have hT := TY_eqNodNode hP
  have e0 := @eqCelCellS P _ hP
  try simp only [stS, stO, hrdS, hrdO] at e0
  have e1 := @eqBoxBoxS P _ hP
  try simp only [stS, stO, hrdS, hrdO] at e1
  have e2 := @eqBoxBoxS P _ hP
  try simp only [stS, stO, hrdS, hrdO] at e2
  have e3 := @eqOutOutS P _ hP
  try simp only [stS, stO, hrdS, hrdO] at e3
  have e4 := @eqInInS P _ hP
  try simp only [stS, stO, hrdS, hrdO] at e4
  have e5 := @eqHrdBook P _ hP
  try simp only [stS, stO, hrdS, hrdO] at e5
  clear hP
  intro hl
  clear hl
  simp only [nodS, Tryz.f17, hT, eq_self, decide_true, beq_self_eq_true, If_lit, eA, Nat.beq, List.toArray, reduceAdd, reduceLT, reduceLeDiff, reduceToNat]
  refine Fun.plain (e0 _ _) rfl rfl rfl rfl ?_
  simp only [hT, eq_self, decide_true, beq_self_eq_true, If_lit, eA, Nat.beq, List.toArray, reduceAdd, reduceLT, reduceLeDiff, reduceToNat]
  refine Fun.plain (e1 _ _) rfl rfl rfl rfl ?_
  simp only [hT, eq_self, decide_true, beq_self_eq_true, If_lit, eA, Nat.beq, List.toArray, reduceAdd, reduceLT, reduceLeDiff, reduceToNat]
  refine Fun.plain (e2 _ _) rfl rfl rfl rfl ?_
  simp only [hT, eq_self, decide_true, beq_self_eq_true, If_lit, eA, Nat.beq, List.toArray, reduceAdd, reduceLT, reduceLeDiff, reduceToNat]
  refine Fun.plain (e3 _) rfl rfl rfl rfl ?_
  simp only [hT, eq_self, decide_true, beq_self_eq_true, If_lit, eA, Nat.beq, List.toArray, reduceAdd, reduceLT, reduceLeDiff, reduceToNat]
  refine Fun.plain (e4 _) rfl rfl rfl rfl ?_
  simp only [hT, eq_self, decide_true, beq_self_eq_true, If_lit, eA, Nat.beq, List.toArray, reduceAdd, reduceLT, reduceLeDiff, reduceToNat]
  refine Fun.plain (e5 x.heard) rfl rfl rfl rfl ?_
  simp only [hT, eq_self, decide_true, beq_self_eq_true, If_lit, eA, Nat.beq, List.toArray, reduceAdd, reduceLT, reduceLeDiff, reduceToNat]
end Go.Proofs.YtjlmfcddbcoimaaGreat.C
