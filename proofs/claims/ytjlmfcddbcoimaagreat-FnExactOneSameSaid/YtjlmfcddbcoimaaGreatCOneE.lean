/- Machines and worlds that are the same: the laws see it. -/
import Derived.Test.YtjlmfcddbcoimaaGreatCOneA
import Derived.Test.YtjlmfcddbcoimaaGreatCNodE
set_option maxRecDepth 100000
set_option maxHeartbeats 4000000
set_option linter.unusedSimpArgs false
set_option linter.unusedVariables false
namespace Go.Proofs.YtjlmfcddbcoimaaGreat.C
open Go Go.Av Go.Proofs
theorem TY_eqBoolS {P : Program} (hP : P = Tryz.prog) : ((P.follows .mixedOrders = true) ∧ (lkT P 64 = 1)) ∧ ((elT P 64 = some ((false, (1, 1)))) ∧ ((tyT P 4 = some ((false, 1))) ∧ (bolT P 4 = true))) := by subst hP; refine ⟨⟨?_, ?_⟩, ⟨?_, ⟨?_, ?_⟩⟩⟩ <;> kernel_rfl
theorem eqBoolS {P : Program} [Known P] (hP : P = Tryz.prog) (l : List (Bool)) : Fun P 120 [.sl 1 (l.map bE) bZ, .sl 1 (l.map bE) bZ] (.bool true) := by
  refine fun_of (fn := Tryz.f120) (hP ▸ Tryz.func120) (by kernel_rfl) (by kernel_rfl) (by kernel_rfl) (by kernel_rfl) ?_
  have hT := TY_eqBoolS hP
  have hm : P.follows .mixedOrders = true := by subst hP; kernel_rfl
  clear hP
  intro hl
  simp only [limL, limA, and_true, List.length_map] at hl
  simp only [Tryz.f120, hT, eq_self, decide_true, If_lit, eA, Nat.beq, List.toArray, Nat.reduceAdd, Nat.reduceLT, Nat.reduceLeDiff, Int.reduceToNat]
  unfold lim at hl
  have hl' := hl
  (try unfold lim); repeat first | ((with_reducible refine And.intro ?_ ?_); (first | omega | exact ⟨by omega, by omega⟩ | rfl)) | intro _
  refine wpc_loop {i : Nat // i ≤ l.length} (fun i => ⟨[(0, .sl 1 (l.map bE) bZ), (1, .sl 1 (l.map bE) bZ), (5, .int .i64 i.1)], [], 0⟩) (fun i => l.length - i.1) ⟨0, Nat.zero_le _⟩ (Le.of [] (Nat.zero_le _) ?_ ?_ ?_) ?_
  · simp only [eL, eH, eG, leO, Nat.beq, Nat.reduceLT]
  · simp only [eL, eH, eG, leO, Nat.beq, Nat.reduceLT] <;> rfl
  · simp only [eL, eH, eG, leO, Nat.beq, Nat.reduceLT]
  · rintro ⟨i, hi⟩
    simp only [hT, eA, Nat.beq, List.toArray, Nat.reduceAdd, Nat.reduceLT, Nat.reduceLeDiff, Int.reduceToNat]
    refine fun _ => ⟨fun h => ?_, fun h => trivial⟩
    simp only [decide_eq_true_eq] at h
    have hil : i < l.length := by omega
    have hg : ∀ d, (l.map bE).getD i d = bE (l.getD i false) := fun d => getIn bE l i d false hil
    refine wpc_read [0, 1, 2, 3, 4, 5, 6, 7, 8] hm (by kernel_rfl) ?_
    simp only [hT, hg, bE, beq_self_eq_true, Bool.not_true, eq_self, decide_true, If_lit, eT, ↓If_lit, Nat.reduceSub, reduceCtorEq, eA, Nat.beq, List.toArray, Nat.reduceAdd, Nat.reduceLT, Nat.reduceLeDiff, Int.reduceToNat]
    (try unfold lim); repeat first | ((with_reducible refine And.intro ?_ ?_); (first | omega | exact ⟨by omega, by omega⟩ | rfl)) | intro _
    refine ⟨⟨i + 1, hil⟩, by simp only; omega, Le.of [] (Nat.zero_le _) ?_ ?_ ?_⟩
    · simp only [eL, eH, eG, leO, Nat.beq, Nat.reduceLT]
    · simp only [eL, eH, eG, leO, Nat.beq, Nat.reduceLT] <;> omega
    · simp only [eL, eH, eG, leO, Nat.beq, Nat.reduceLT]
theorem TY_eqCelSight {P : Program} (hP : P = Tryz.prog) : ((fldT P 249 0 = some ((0, (false, 1)))) ∧ (tyT P 3 = some ((false, 1)))) ∧ ((fldT P 249 1 = some ((1, (false, 1)))) ∧ ((fldT P 249 2 = some ((2, (false, 1)))) ∧ (tyT P 149 = some ((false, 1))))) := by subst hP; refine ⟨⟨?_, ?_⟩, ⟨?_, ⟨?_, ?_⟩⟩⟩ <;> kernel_rfl
theorem eqCelSight {P : Program} [Known P] (hP : P = Tryz.prog) (x : VSig) : Fun P 273 [.agg (sigS x), .agg (sigS x)] (.bool true) := by
  refine fun_of (fn := Tryz.f273) (hP ▸ Tryz.func273) (by kernel_rfl) (by kernel_rfl) (by kernel_rfl) (by kernel_rfl) ?_
  have hT := TY_eqCelSight hP
  have e0 := @eqByteT P _ hP
  try simp only [stS, stO, hrdS, hrdO, plnS, plnO, nodS, nodO] at e0
  clear hP
  intro hl
  clear hl
  simp only [sigS, Tryz.f273, hT, eq_self, decide_true, beq_self_eq_true, If_lit, eA, Nat.beq, List.toArray, Nat.reduceAdd, Nat.reduceLT, Nat.reduceLeDiff, Int.reduceToNat]
  refine Fun.plain (e0 _) rfl rfl rfl rfl ?_
  simp only [hT, eq_self, decide_true, beq_self_eq_true, If_lit, eA, Nat.beq, List.toArray, Nat.reduceAdd, Nat.reduceLT, Nat.reduceLeDiff, Int.reduceToNat]
theorem TY_eqCelSightS {P : Program} (hP : P = Tryz.prog) : ((P.follows .mixedOrders = true) ∧ (lkT P 143 = 1)) ∧ ((elT P 143 = some ((true, (3, 40)))) ∧ (tyT P 249 = some ((true, 3)))) := by subst hP; refine ⟨⟨?_, ?_⟩, ⟨?_, ?_⟩⟩ <;> kernel_rfl
theorem eqCelSightS {P : Program} [Known P] (hP : P = Tryz.prog) (l : List (VSig)) (d : List AV) : Fun P 206 [.sl 3 (l.map sigS) d, .sl 3 (l.map sigS) d] (.bool true) := by
  refine fun_of (fn := Tryz.f206) (hP ▸ Tryz.func206) (by kernel_rfl) (by kernel_rfl) (by kernel_rfl) (by kernel_rfl) ?_
  have hT := TY_eqCelSightS hP
  have hm : P.follows .mixedOrders = true := by subst hP; kernel_rfl
  have el := @eqCelSight P _ hP
  clear hP
  intro hl
  simp only [limL, limA, and_true, List.length_map] at hl
  simp only [Tryz.f206, hT, eq_self, decide_true, If_lit, eA, Nat.beq, List.toArray, Nat.reduceAdd, Nat.reduceLT, Nat.reduceLeDiff, Int.reduceToNat]
  unfold lim at hl
  have hl' := hl
  (try unfold lim); repeat first | ((with_reducible refine And.intro ?_ ?_); (first | omega | exact ⟨by omega, by omega⟩ | rfl)) | intro _
  refine wpc_loop {i : Nat // i ≤ l.length} (fun i => ⟨[(0, .sl 3 (l.map sigS) d), (1, .sl 3 (l.map sigS) d), (5, .int .i64 i.1)], [], 0⟩) (fun i => l.length - i.1) ⟨0, Nat.zero_le _⟩ (Le.of [] (Nat.zero_le _) ?_ ?_ ?_) ?_
  · simp only [eL, eH, eG, leO, Nat.beq, Nat.reduceLT]
  · simp only [eL, eH, eG, leO, Nat.beq, Nat.reduceLT] <;> rfl
  · simp only [eL, eH, eG, leO, Nat.beq, Nat.reduceLT]
  · rintro ⟨i, hi⟩
    simp only [hT, eA, Nat.beq, List.toArray, Nat.reduceAdd, Nat.reduceLT, Nat.reduceLeDiff, Int.reduceToNat]
    refine fun _ => ⟨fun h => ?_, fun h => trivial⟩
    simp only [decide_eq_true_eq] at h
    have hil : i < l.length := by omega
    have hg : ∀ d, (l.map sigS).getD i d = sigS (l.getD i sig0) := fun d => getIn sigS l i d sig0 hil
    refine wpc_read [0, 1, 2, 3, 4, 5, 6, 7, 8, 9] hm (by kernel_rfl) ?_
    simp only [hT, hg, sigS, eq_self, decide_true, If_lit, eT, ↓If_lit, Nat.reduceSub, reduceCtorEq, eA, Nat.beq, List.toArray, Nat.reduceAdd, Nat.reduceLT, Nat.reduceLeDiff, Int.reduceToNat]
    (try unfold lim); repeat first | ((with_reducible refine And.intro ?_ ?_); (first | omega | exact ⟨by omega, by omega⟩ | rfl)) | intro _
    have ex := el (l.getD i sig0)
    try simp only [sigS] at ex
    refine Fun.pcall (ex) (by exact rfl) rfl rfl rfl rfl ?_; simp only [hT, nneg, decide_true, decide_false, ↓If_lit, Int.cast_ofNat_Int, Int.reduceLT, Int.reduceLE, eT, ↓If_lit, Nat.reduceSub, reduceCtorEq, eA, Nat.beq, List.toArray, Nat.reduceAdd, Nat.reduceLT, Nat.reduceLeDiff, Int.reduceToNat]; (try unfold lim); repeat first | ((with_reducible refine And.intro ?_ ?_); (first | omega | exact ⟨by omega, by omega⟩ | rfl)) | intro _
    refine ⟨⟨i + 1, hil⟩, by simp only; omega, Le.of [] (Nat.zero_le _) ?_ ?_ ?_⟩
    · simp only [eL, eH, eG, leO, Nat.beq, Nat.reduceLT]
    · simp only [eL, eH, eG, leO, Nat.beq, Nat.reduceLT] <;> omega
    · simp only [eL, eH, eG, leO, Nat.beq, Nat.reduceLT]
theorem eqSeen {P : Program} [Known P] (hP : P = Tryz.prog) (l : List VSig) : Fun P 206 [.sl 3 (l.map sigS) sigZ, .sl 3 (l.map sigS) sigZ] (.bool true) := eqCelSightS hP l sigZ
theorem eqAir {P : Program} [Known P] (hP : P = Tryz.prog) (l : List (List UInt8)) : Fun P 135 [.sl 1 (l.map msgS) msgZ, .sl 1 (l.map msgS) msgZ] (.bool true) := eqByteSS hP l msgZ
theorem TY_eqCelSightSS {P : Program} (hP : P = Tryz.prog) : ((P.follows .mixedOrders = true) ∧ (lkT P 71 = 1)) ∧ ((elT P 71 = some ((false, (1, 24)))) ∧ (tyT P 143 = some ((false, 1)))) := by subst hP; refine ⟨⟨?_, ?_⟩, ⟨?_, ?_⟩⟩ <;> kernel_rfl
theorem eqCelSightSS {P : Program} [Known P] (hP : P = Tryz.prog) (l : List (List VSig)) (d : List AV) : Fun P 122 [.sl 1 (l.map seenS) d, .sl 1 (l.map seenS) d] (.bool true) := by
  refine fun_of (fn := Tryz.f122) (hP ▸ Tryz.func122) (by kernel_rfl) (by kernel_rfl) (by kernel_rfl) (by kernel_rfl) ?_
  have hT := TY_eqCelSightSS hP
  have hm : P.follows .mixedOrders = true := by subst hP; kernel_rfl
  have el := @eqSeen P _ hP
  clear hP
  intro hl
  simp only [limL, limA, and_true, List.length_map] at hl
  simp only [Tryz.f122, hT, eq_self, decide_true, If_lit, eA, Nat.beq, List.toArray, Nat.reduceAdd, Nat.reduceLT, Nat.reduceLeDiff, Int.reduceToNat]
  unfold lim at hl
  have hl' := hl
  (try unfold lim); repeat first | ((with_reducible refine And.intro ?_ ?_); (first | omega | exact ⟨by omega, by omega⟩ | rfl)) | intro _
  refine wpc_loop {i : Nat // i ≤ l.length} (fun i => ⟨[(0, .sl 1 (l.map seenS) d), (1, .sl 1 (l.map seenS) d), (5, .int .i64 i.1)], [], 0⟩) (fun i => l.length - i.1) ⟨0, Nat.zero_le _⟩ (Le.of [] (Nat.zero_le _) ?_ ?_ ?_) ?_
  · simp only [eL, eH, eG, leO, Nat.beq, Nat.reduceLT]
  · simp only [eL, eH, eG, leO, Nat.beq, Nat.reduceLT] <;> rfl
  · simp only [eL, eH, eG, leO, Nat.beq, Nat.reduceLT]
  · rintro ⟨i, hi⟩
    simp only [hT, eA, Nat.beq, List.toArray, Nat.reduceAdd, Nat.reduceLT, Nat.reduceLeDiff, Int.reduceToNat]
    refine fun _ => ⟨fun h => ?_, fun h => trivial⟩
    simp only [decide_eq_true_eq] at h
    have hil : i < l.length := by omega
    have hg : ∀ d, (l.map seenS).getD i d = seenS (l.getD i []) := fun d => getIn seenS l i d [] hil
    refine wpc_read [0, 1, 2, 3, 4, 5, 6, 7, 8, 9] hm (by kernel_rfl) ?_
    simp only [hT, hg, seenS, eq_self, decide_true, If_lit, eT, ↓If_lit, Nat.reduceSub, reduceCtorEq, eA, Nat.beq, List.toArray, Nat.reduceAdd, Nat.reduceLT, Nat.reduceLeDiff, Int.reduceToNat]
    (try unfold lim); repeat first | ((with_reducible refine And.intro ?_ ?_); (first | omega | exact ⟨by omega, by omega⟩ | rfl)) | intro _
    have ex := el (l.getD i [])
    try simp only [seenS] at ex
    refine Fun.pcall (ex) (by exact rfl) rfl rfl rfl rfl ?_; simp only [hT, nneg, decide_true, decide_false, ↓If_lit, Int.cast_ofNat_Int, Int.reduceLT, Int.reduceLE, eT, ↓If_lit, Nat.reduceSub, reduceCtorEq, eA, Nat.beq, List.toArray, Nat.reduceAdd, Nat.reduceLT, Nat.reduceLeDiff, Int.reduceToNat]; (try unfold lim); repeat first | ((with_reducible refine And.intro ?_ ?_); (first | omega | exact ⟨by omega, by omega⟩ | rfl)) | intro _
    refine ⟨⟨i + 1, hil⟩, by simp only; omega, Le.of [] (Nat.zero_le _) ?_ ?_ ?_⟩
    · simp only [eL, eH, eG, leO, Nat.beq, Nat.reduceLT]
    · simp only [eL, eH, eG, leO, Nat.beq, Nat.reduceLT] <;> omega
    · simp only [eL, eH, eG, leO, Nat.beq, Nat.reduceLT]
theorem TY_eqByteSSS {P : Program} (hP : P = Tryz.prog) : ((P.follows .mixedOrders = true) ∧ (lkT P 65 = 1)) ∧ ((elT P 65 = some ((false, (1, 24)))) ∧ (tyT P 79 = some ((false, 1)))) := by subst hP; refine ⟨⟨?_, ?_⟩, ⟨?_, ?_⟩⟩ <;> kernel_rfl
theorem eqByteSSS {P : Program} [Known P] (hP : P = Tryz.prog) (l : List (List (List UInt8))) (d : List AV) : Fun P 121 [.sl 1 (l.map airS) d, .sl 1 (l.map airS) d] (.bool true) := by
  refine fun_of (fn := Tryz.f121) (hP ▸ Tryz.func121) (by kernel_rfl) (by kernel_rfl) (by kernel_rfl) (by kernel_rfl) ?_
  have hT := TY_eqByteSSS hP
  have hm : P.follows .mixedOrders = true := by subst hP; kernel_rfl
  have el := @eqAir P _ hP
  clear hP
  intro hl
  simp only [limL, limA, and_true, List.length_map] at hl
  simp only [Tryz.f121, hT, eq_self, decide_true, If_lit, eA, Nat.beq, List.toArray, Nat.reduceAdd, Nat.reduceLT, Nat.reduceLeDiff, Int.reduceToNat]
  unfold lim at hl
  have hl' := hl
  (try unfold lim); repeat first | ((with_reducible refine And.intro ?_ ?_); (first | omega | exact ⟨by omega, by omega⟩ | rfl)) | intro _
  refine wpc_loop {i : Nat // i ≤ l.length} (fun i => ⟨[(0, .sl 1 (l.map airS) d), (1, .sl 1 (l.map airS) d), (5, .int .i64 i.1)], [], 0⟩) (fun i => l.length - i.1) ⟨0, Nat.zero_le _⟩ (Le.of [] (Nat.zero_le _) ?_ ?_ ?_) ?_
  · simp only [eL, eH, eG, leO, Nat.beq, Nat.reduceLT]
  · simp only [eL, eH, eG, leO, Nat.beq, Nat.reduceLT] <;> rfl
  · simp only [eL, eH, eG, leO, Nat.beq, Nat.reduceLT]
  · rintro ⟨i, hi⟩
    simp only [hT, eA, Nat.beq, List.toArray, Nat.reduceAdd, Nat.reduceLT, Nat.reduceLeDiff, Int.reduceToNat]
    refine fun _ => ⟨fun h => ?_, fun h => trivial⟩
    simp only [decide_eq_true_eq] at h
    have hil : i < l.length := by omega
    have hg : ∀ d, (l.map airS).getD i d = airS (l.getD i []) := fun d => getIn airS l i d [] hil
    refine wpc_read [0, 1, 2, 3, 4, 5, 6, 7, 8, 9] hm (by kernel_rfl) ?_
    simp only [hT, hg, airS, eq_self, decide_true, If_lit, eT, ↓If_lit, Nat.reduceSub, reduceCtorEq, eA, Nat.beq, List.toArray, Nat.reduceAdd, Nat.reduceLT, Nat.reduceLeDiff, Int.reduceToNat]
    (try unfold lim); repeat first | ((with_reducible refine And.intro ?_ ?_); (first | omega | exact ⟨by omega, by omega⟩ | rfl)) | intro _
    have ex := el (l.getD i [])
    try simp only [airS] at ex
    refine Fun.pcall (ex) (by exact rfl) rfl rfl rfl rfl ?_; simp only [hT, nneg, decide_true, decide_false, ↓If_lit, Int.cast_ofNat_Int, Int.reduceLT, Int.reduceLE, eT, ↓If_lit, Nat.reduceSub, reduceCtorEq, eA, Nat.beq, List.toArray, Nat.reduceAdd, Nat.reduceLT, Nat.reduceLeDiff, Int.reduceToNat]; (try unfold lim); repeat first | ((with_reducible refine And.intro ?_ ?_); (first | omega | exact ⟨by omega, by omega⟩ | rfl)) | intro _
    refine ⟨⟨i + 1, hil⟩, by simp only; omega, Le.of [] (Nat.zero_le _) ?_ ?_ ?_⟩
    · simp only [eL, eH, eG, leO, Nat.beq, Nat.reduceLT]
    · simp only [eL, eH, eG, leO, Nat.beq, Nat.reduceLT] <;> omega
    · simp only [eL, eH, eG, leO, Nat.beq, Nat.reduceLT]
theorem TY_eqOneState {P : Program} (hP : P = Tryz.prog) : (((fldT P 73 0 = some ((0, (true, 7)))) ∧ ((tyT P 43 = some ((true, 7))) ∧ (fldT P 73 1 = some ((7, (false, 1)))))) ∧ (((tyT P 64 = some ((false, 1))) ∧ (fldT P 73 2 = some ((8, (false, 1))))) ∧ ((tyT P 29 = some ((false, 1))) ∧ (fldT P 73 3 = some ((9, (false, 1))))))) ∧ ((((tyT P 30 = some ((false, 1))) ∧ (fldT P 73 4 = some ((10, (false, 1))))) ∧ ((fldT P 73 5 = some ((11, (false, 1)))) ∧ (tyT P 65 = some ((false, 1))))) ∧ (((fldT P 73 6 = some ((12, (false, 1)))) ∧ (tyT P 3 = some ((false, 1)))) ∧ ((fldT P 73 7 = some ((13, (false, 1)))) ∧ (tyT P 71 = some ((false, 1)))))) := by subst hP; refine ⟨⟨⟨?_, ⟨?_, ?_⟩⟩, ⟨⟨?_, ?_⟩, ⟨?_, ?_⟩⟩⟩, ⟨⟨⟨?_, ?_⟩, ⟨?_, ?_⟩⟩, ⟨⟨?_, ?_⟩, ⟨?_, ?_⟩⟩⟩⟩ <;> kernel_rfl
theorem eqOneState {P : Program} [Known P] (hP : P = Tryz.prog) (x : VOne) : Fun P 36 [.agg (oneS x), .agg (oneS x)] (.bool true) := by
  refine fun_of (fn := Tryz.f36) (hP ▸ Tryz.func36) (by kernel_rfl) (by kernel_rfl) (by kernel_rfl) (by kernel_rfl) ?_
  have hT := TY_eqOneState hP
  have e0 := @eqPlnPlan P _ hP
  try simp only [stS, stO, hrdS, hrdO, plnS, plnO, nodS, nodO] at e0
  have e1 := @eqBoolS P _ hP
  try simp only [stS, stO, hrdS, hrdO, plnS, plnO, nodS, nodO] at e1
  have e2 := @eqCelCellS P _ hP
  try simp only [stS, stO, hrdS, hrdO, plnS, plnO, nodS, nodO] at e2
  have e3 := @eqBoxBoxS P _ hP
  try simp only [stS, stO, hrdS, hrdO, plnS, plnO, nodS, nodO] at e3
  have e4 := @eqBoxBoxS P _ hP
  try simp only [stS, stO, hrdS, hrdO, plnS, plnO, nodS, nodO] at e4
  have e5 := @eqByteSSS P _ hP
  try simp only [stS, stO, hrdS, hrdO, plnS, plnO, nodS, nodO] at e5
  have e6 := @eqCelSightSS P _ hP
  try simp only [stS, stO, hrdS, hrdO, plnS, plnO, nodS, nodO] at e6
  clear hP
  intro hl
  clear hl
  simp only [oneS, Tryz.f36, hT, eq_self, decide_true, beq_self_eq_true, If_lit, eA, Nat.beq, List.toArray, Nat.reduceAdd, Nat.reduceLT, Nat.reduceLeDiff, Int.reduceToNat]
  refine Fun.plain (e0 x.plan) rfl rfl rfl rfl ?_
  simp only [hT, eq_self, decide_true, beq_self_eq_true, If_lit, eA, Nat.beq, List.toArray, Nat.reduceAdd, Nat.reduceLT, Nat.reduceLeDiff, Int.reduceToNat]
  refine Fun.plain (e1 _) rfl rfl rfl rfl ?_
  simp only [hT, eq_self, decide_true, beq_self_eq_true, If_lit, eA, Nat.beq, List.toArray, Nat.reduceAdd, Nat.reduceLT, Nat.reduceLeDiff, Int.reduceToNat]
  refine Fun.plain (e2 _ _) rfl rfl rfl rfl ?_
  simp only [hT, eq_self, decide_true, beq_self_eq_true, If_lit, eA, Nat.beq, List.toArray, Nat.reduceAdd, Nat.reduceLT, Nat.reduceLeDiff, Int.reduceToNat]
  refine Fun.plain (e3 _ _) rfl rfl rfl rfl ?_
  simp only [hT, eq_self, decide_true, beq_self_eq_true, If_lit, eA, Nat.beq, List.toArray, Nat.reduceAdd, Nat.reduceLT, Nat.reduceLeDiff, Int.reduceToNat]
  refine Fun.plain (e4 _ _) rfl rfl rfl rfl ?_
  simp only [hT, eq_self, decide_true, beq_self_eq_true, If_lit, eA, Nat.beq, List.toArray, Nat.reduceAdd, Nat.reduceLT, Nat.reduceLeDiff, Int.reduceToNat]
  refine Fun.plain (e5 _ _) rfl rfl rfl rfl ?_
  simp only [hT, eq_self, decide_true, beq_self_eq_true, If_lit, eA, Nat.beq, List.toArray, Nat.reduceAdd, Nat.reduceLT, Nat.reduceLeDiff, Int.reduceToNat]
  refine Fun.plain (e6 _ _) rfl rfl rfl rfl ?_
  simp only [hT, eq_self, decide_true, beq_self_eq_true, If_lit, eA, Nat.beq, List.toArray, Nat.reduceAdd, Nat.reduceLT, Nat.reduceLeDiff, Int.reduceToNat]
theorem TY_eqNodNodeS {P : Program} (hP : P = Tryz.prog) : ((P.follows .mixedOrders = true) ∧ (lkT P 84 = 1)) ∧ ((elT P 84 = some ((true, (10, 192)))) ∧ (tyT P 37 = some ((true, 10)))) := by subst hP; refine ⟨⟨?_, ?_⟩, ⟨?_, ?_⟩⟩ <;> kernel_rfl
theorem eqNodNodeS {P : Program} [Known P] (hP : P = Tryz.prog) (l : List (VNod)) (d : List AV) : Fun P 134 [.sl 10 (l.map nodS) d, .sl 10 (l.map nodS) d] (.bool true) := by
  refine fun_of (fn := Tryz.f134) (hP ▸ Tryz.func134) (by kernel_rfl) (by kernel_rfl) (by kernel_rfl) (by kernel_rfl) ?_
  have hT := TY_eqNodNodeS hP
  have hm : P.follows .mixedOrders = true := by subst hP; kernel_rfl
  have el := @eqNodNode P _ hP
  clear hP
  intro hl
  simp only [limL, limA, and_true, List.length_map] at hl
  simp only [Tryz.f134, hT, eq_self, decide_true, If_lit, eA, Nat.beq, List.toArray, Nat.reduceAdd, Nat.reduceLT, Nat.reduceLeDiff, Int.reduceToNat]
  unfold lim at hl
  have hl' := hl
  (try unfold lim); repeat first | ((with_reducible refine And.intro ?_ ?_); (first | omega | exact ⟨by omega, by omega⟩ | rfl)) | intro _
  refine wpc_loop {i : Nat // i ≤ l.length} (fun i => ⟨[(0, .sl 10 (l.map nodS) d), (1, .sl 10 (l.map nodS) d), (5, .int .i64 i.1)], [], 0⟩) (fun i => l.length - i.1) ⟨0, Nat.zero_le _⟩ (Le.of [] (Nat.zero_le _) ?_ ?_ ?_) ?_
  · simp only [eL, eH, eG, leO, Nat.beq, Nat.reduceLT]
  · simp only [eL, eH, eG, leO, Nat.beq, Nat.reduceLT] <;> rfl
  · simp only [eL, eH, eG, leO, Nat.beq, Nat.reduceLT]
  · rintro ⟨i, hi⟩
    simp only [hT, eA, Nat.beq, List.toArray, Nat.reduceAdd, Nat.reduceLT, Nat.reduceLeDiff, Int.reduceToNat]
    refine fun _ => ⟨fun h => ?_, fun h => trivial⟩
    simp only [decide_eq_true_eq] at h
    have hil : i < l.length := by omega
    have hg : ∀ d, (l.map nodS).getD i d = nodS (l.getD i nd0) := fun d => getIn nodS l i d nd0 hil
    refine wpc_read [0, 1, 2, 3, 4, 5, 6, 7, 8, 9] hm (by kernel_rfl) ?_
    simp only [hT, hg, nodS, eq_self, decide_true, If_lit, eT, ↓If_lit, Nat.reduceSub, reduceCtorEq, eA, Nat.beq, List.toArray, Nat.reduceAdd, Nat.reduceLT, Nat.reduceLeDiff, Int.reduceToNat]
    (try unfold lim); repeat first | ((with_reducible refine And.intro ?_ ?_); (first | omega | exact ⟨by omega, by omega⟩ | rfl)) | intro _
    have ex := el (l.getD i nd0)
    try simp only [nodS] at ex
    refine Fun.pcall (ex) (by exact rfl) rfl rfl rfl rfl ?_; simp only [hT, nneg, decide_true, decide_false, ↓If_lit, Int.cast_ofNat_Int, Int.reduceLT, Int.reduceLE, eT, ↓If_lit, Nat.reduceSub, reduceCtorEq, eA, Nat.beq, List.toArray, Nat.reduceAdd, Nat.reduceLT, Nat.reduceLeDiff, Int.reduceToNat]; (try unfold lim); repeat first | ((with_reducible refine And.intro ?_ ?_); (first | omega | exact ⟨by omega, by omega⟩ | rfl)) | intro _
    refine ⟨⟨i + 1, hil⟩, by simp only; omega, Le.of [] (Nat.zero_le _) ?_ ?_ ?_⟩
    · simp only [eL, eH, eG, leO, Nat.beq, Nat.reduceLT]
    · simp only [eL, eH, eG, leO, Nat.beq, Nat.reduceLT] <;> omega
    · simp only [eL, eH, eG, leO, Nat.beq, Nat.reduceLT]
theorem TY_eqWldWorld {P : Program} (hP : P = Tryz.prog) : (((fldT P 86 0 = some ((0, (true, 7)))) ∧ (tyT P 43 = some ((true, 7)))) ∧ ((fldT P 86 1 = some ((7, (false, 1)))) ∧ ((tyT P 84 = some ((false, 1))) ∧ (fldT P 86 2 = some ((8, (false, 1))))))) ∧ (((tyT P 3 = some ((false, 1))) ∧ (fldT P 86 3 = some ((9, (false, 1))))) ∧ ((tyT P 79 = some ((false, 1))) ∧ ((fldT P 86 4 = some ((10, (false, 1)))) ∧ (tyT P 71 = some ((false, 1)))))) := by subst hP; refine ⟨⟨⟨?_, ?_⟩, ⟨?_, ⟨?_, ?_⟩⟩⟩, ⟨⟨?_, ?_⟩, ⟨?_, ⟨?_, ?_⟩⟩⟩⟩ <;> kernel_rfl
theorem eqWldWorld {P : Program} [Known P] (hP : P = Tryz.prog) (x : VWld) : Fun P 43 [.agg (wldS x), .agg (wldS x)] (.bool true) := by
  refine fun_of (fn := Tryz.f43) (hP ▸ Tryz.func43) (by kernel_rfl) (by kernel_rfl) (by kernel_rfl) (by kernel_rfl) ?_
  have hT := TY_eqWldWorld hP
  have e0 := @eqPlnPlan P _ hP
  try simp only [stS, stO, hrdS, hrdO, plnS, plnO, nodS, nodO] at e0
  have e1 := @eqNodNodeS P _ hP
  try simp only [stS, stO, hrdS, hrdO, plnS, plnO, nodS, nodO] at e1
  have e2 := @eqByteSS P _ hP
  try simp only [stS, stO, hrdS, hrdO, plnS, plnO, nodS, nodO] at e2
  have e3 := @eqCelSightSS P _ hP
  try simp only [stS, stO, hrdS, hrdO, plnS, plnO, nodS, nodO] at e3
  clear hP
  intro hl
  clear hl
  simp only [wldS, Tryz.f43, hT, eq_self, decide_true, beq_self_eq_true, If_lit, eA, Nat.beq, List.toArray, Nat.reduceAdd, Nat.reduceLT, Nat.reduceLeDiff, Int.reduceToNat]
  refine Fun.plain (e0 x.plan) rfl rfl rfl rfl ?_
  simp only [hT, eq_self, decide_true, beq_self_eq_true, If_lit, eA, Nat.beq, List.toArray, Nat.reduceAdd, Nat.reduceLT, Nat.reduceLeDiff, Int.reduceToNat]
  refine Fun.plain (e1 _ _) rfl rfl rfl rfl ?_
  simp only [hT, eq_self, decide_true, beq_self_eq_true, If_lit, eA, Nat.beq, List.toArray, Nat.reduceAdd, Nat.reduceLT, Nat.reduceLeDiff, Int.reduceToNat]
  refine Fun.plain (e2 _ _) rfl rfl rfl rfl ?_
  simp only [hT, eq_self, decide_true, beq_self_eq_true, If_lit, eA, Nat.beq, List.toArray, Nat.reduceAdd, Nat.reduceLT, Nat.reduceLeDiff, Int.reduceToNat]
  refine Fun.plain (e3 _ _) rfl rfl rfl rfl ?_
  simp only [hT, eq_self, decide_true, beq_self_eq_true, If_lit, eA, Nat.beq, List.toArray, Nat.reduceAdd, Nat.reduceLT, Nat.reduceLeDiff, Int.reduceToNat]
end Go.Proofs.YtjlmfcddbcoimaaGreat.C
