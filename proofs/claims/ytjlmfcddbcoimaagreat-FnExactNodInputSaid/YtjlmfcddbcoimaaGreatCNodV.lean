/- Whether machines, cells, boxes and books are ok, by the given text. -/
import Derived.Test.YtjlmfcddbcoimaaGreatCNodU
import Derived.Test.YtjlmfcddbcoimaaGreatCPlnG
set_option maxRecDepth 100000
set_option maxHeartbeats 4000000
set_option linter.unusedSimpArgs false
set_option linter.unusedVariables false
namespace Go.Proofs.YtjlmfcddbcoimaaGreat.C
open Go Go.Av Go.Proofs
open Nat (reduceAdd reduceLT reduceLeDiff reduceSub)
open Int (reduceToNat)
theorem nodesOf {p : VPln} (h : res p = none) : 1 ≤ p.1 ∧ p.1 ≤ 4 := by
  obtain ⟨n, e, a, b⟩ := chk_nodes (res_ok h 0 (by omega))
  omega
theorem TY_sameIntsS {P : Program} (hP : P = Tryz.prog) : ((P.follows .mixedOrders = true) ∧ (lkT P 33 = 1)) ∧ ((elT P 33 = some ((false, (1, 8)))) ∧ (tyT P 3 = some ((false, 1)))) := by subst hP; refine ⟨⟨?_, ?_⟩, ⟨?_, ?_⟩⟩ <;> kernel_rfl
theorem sameIntsS {P : Program} [Known P] (hP : P = Tryz.prog) (l r : List Int) : Fun P 207 [intsS l, intsS r] (.bool (decide (l = r))) := by
  refine fun_of (fn := Tryz.f207) (hP ▸ Tryz.func207) (by kernel_rfl) (by kernel_rfl) (by kernel_rfl) (by kernel_rfl) ?_
  have hT := TY_sameIntsS hP
  have hm : P.follows .mixedOrders = true := by subst hP; kernel_rfl
  clear hP
  intro hl
  have hl0 : l.length ≤ lim := by simpa only [limL, limA, List.length_map] using hl.1
  clear hl
  simp only [Tryz.f207, hT, eA, Nat.beq, List.toArray, reduceAdd, reduceLT, reduceLeDiff, reduceToNat]
  have hl1 : l.length ≤ 140737488355328 := hl0
  refine fun _ _ => If.mk (fun q => ?_) (fun q => ?_)
  · simp only [Bool.not_eq_true', decide_eq_false_iff_not] at q
    exact (decide_eq_false (fun e => q (by rw [e]))).symm
  · simp only [Bool.not_eq_false', decide_eq_true_eq] at q
    have hlr : l.length = r.length := by omega
    try intro _
    refine wpc_loop {k : Nat // k ≤ l.length ∧ l.take k = r.take k} (fun k => ⟨[(0, intsS l), (1, intsS r), (5, .int .i64 k.1)], [], 0⟩) (fun k => l.length - k.1) ⟨0, Nat.zero_le _, rfl⟩ (Le.of [] (Nat.zero_le _) ?_ ?_ ?_) ?_
    · simp only [eL, eH, eG, leO, Nat.beq, reduceLT]
    · simp only [eL, eH, eG, leO, Nat.beq, reduceLT]; first | done | rfl | simp | omega
    · simp only [eL, eH, eG, leO, Nat.beq, reduceLT]
    · rintro ⟨k, hk, hp⟩
      by_cases hlt : k < l.length
      · have hf : decide ((k : Int) < l.length) = true := decide_eq_true (by omega)
        have gl : ∀ d, (l.map intE).getD k d = intE (l.getD k 0) := fun d => getIn intE l k d 0 hlt
        have gr : ∀ d, (r.map intE).getD k d = intE (r.getD k 0) := fun d => getIn intE r k d 0 (by omega)
        simp only [hT, hf, ↓If_lit, eA, Nat.beq, List.toArray, reduceAdd, reduceLT, reduceLeDiff, reduceToNat]
        (try unfold lim); repeat first | ((with_reducible refine And.intro ?_ ?_); (first | omega | exact ⟨by omega, by omega⟩ | rfl)) | intro _
        refine wpc_read [0, 1, 2, 3, 4, 5, 6, 7, 8] hm (by kernel_rfl) ?_
        simp only [hT, gl, gr, intE, Int.toNat_natCast, eT, ↓If_lit, reduceSub, reduceCtorEq, eA, Nat.beq, List.toArray, reduceAdd, reduceLT, reduceLeDiff, reduceToNat]
        (try unfold lim); repeat first | ((with_reducible refine And.intro ?_ ?_); (first | omega | exact ⟨by omega, by omega⟩ | rfl)) | intro _
        have el : l.getD k 0 = l[k] := by rw [List.getD_eq_getElem?_getD, List.getElem?_eq_getElem hlt]; rfl
        have er : r.getD k 0 = r[k] := by rw [List.getD_eq_getElem?_getD, List.getElem?_eq_getElem (by omega)]; rfl
        refine If.mk (fun hb => ?_) (fun hb => ?_)
        · simp only [Bool.not_eq_true', decide_eq_false_iff_not] at hb
          exact (decide_eq_false (fun e => hb (by subst e; rfl))).symm
        · simp only [Bool.not_eq_false', decide_eq_true_eq] at hb
          rw [el, er] at hb
          have hn : l.take (k + 1) = r.take (k + 1) := by rw [List.take_add_one, List.take_add_one, List.getElem?_eq_getElem hlt, List.getElem?_eq_getElem (by omega : k < r.length), hb, hp]
          refine ⟨show In64 _ from ⟨by omega, by omega⟩, ⟨k + 1, hlt, hn⟩, by simp only; omega, Le.of [] (Nat.zero_le _) ?_ ?_ ?_⟩
          · simp only [eL, eH, eG, leO, Nat.beq, reduceLT]
          · simp only [eL, eH, eG, leO, Nat.beq, reduceLT]; first | done | rfl | simp | omega
          · simp only [eL, eH, eG, leO, Nat.beq, reduceLT]
      · obtain rfl : k = l.length := by omega
        have hf : decide ((l.length : Int) < l.length) = false := decide_eq_false (by omega)
        rw [List.take_length, hlr, List.take_length] at hp
        simp only [hT, hf, ↓If_lit, eA, Nat.beq, List.toArray, reduceAdd, reduceLT, reduceLeDiff, reduceToNat]
        try intro _
        exact (decide_eq_true hp).symm
theorem TY_sameBytesS {P : Program} (hP : P = Tryz.prog) : ((utT P 149 = true) ∧ (intT P 9 = none)) ∧ ((lkT P 9 = 2) ∧ (byT P 149 = true)) := by subst hP; refine ⟨⟨?_, ?_⟩, ⟨?_, ?_⟩⟩ <;> kernel_rfl
theorem sameBytesS {P : Program} [Known P] (hP : P = Tryz.prog) (l r : List UInt8) : Fun P 208 [B l, B r] (.bool (decide (l = r))) := by
  refine fun_of (fn := Tryz.f208) (hP ▸ Tryz.func208) (by kernel_rfl) (by kernel_rfl) (by kernel_rfl) (by kernel_rfl) ?_
  have hT := TY_sameBytesS hP
  clear hP
  intro hl
  clear hl
  simp only [Tryz.f208, hT, eA, Nat.beq, List.toArray, reduceAdd, reduceLT, reduceLeDiff, reduceToNat]
  refine decide_eq_decide.2 ⟨fun h => ?_, fun h => by rw [h]⟩
  simpa using h
theorem TY_sameCellS {P : Program} (hP : P = Tryz.prog) : (((fldT P 151 0 = some ((0, (true, 4)))) ∧ (fldT P 148 0 = some ((0, (false, 1))))) ∧ ((tyT P 3 = some ((false, 1))) ∧ (fldT P 148 3 = some ((3, (false, 1)))))) ∧ (((fldT P 148 1 = some ((1, (false, 1)))) ∧ (tyT P 33 = some ((false, 1)))) ∧ ((fldT P 148 2 = some ((2, (false, 1)))) ∧ ((fldT P 151 1 = some ((4, (false, 1)))) ∧ (tyT P 149 = some ((false, 1)))))) := by subst hP; refine ⟨⟨⟨?_, ?_⟩, ⟨?_, ?_⟩⟩, ⟨⟨?_, ?_⟩, ⟨?_, ⟨?_, ?_⟩⟩⟩⟩ <;> kernel_rfl
theorem sameCellS {P : Program} [Known P] (hP : P = Tryz.prog) (a b : VCel) : Fun P 123 [.agg (celS a), .agg (celS b)] (.bool (sameC a b)) := by
  refine fun_of (fn := Tryz.f123) (hP ▸ Tryz.func123) (by kernel_rfl) (by kernel_rfl) (by kernel_rfl) (by kernel_rfl) ?_
  have hT := TY_sameCellS hP
  have e1 := fun l r => sameIntsS hP l r
  have e2 := fun l r => sameBytesS hP l r
  clear hP
  intro hl
  clear hl
  simp only [celS, Tryz.f123, hT, eA, Nat.beq, List.toArray, reduceAdd, reduceLT, reduceLeDiff, reduceToNat]
  all_goals repeat' first
    | (refine If.mk (fun q => ?_) (fun q => ?_))
    | (show In64 _; exact ⟨by omega, by omega⟩)
    | (with_reducible refine And.intro ?_ ?_)
    | omega
    | (refine Fun.plain (e1 _ _) rfl rfl rfl rfl ?_; simp only [hT, Int.cast_ofNat_Int, Int.toNat_natCast, ↓If_lit, eA, Nat.beq, List.toArray, reduceAdd, reduceLT, reduceLeDiff, reduceToNat])
    | (refine Fun.plain (e2 _ _) rfl rfl rfl rfl ?_; simp only [hT, Int.cast_ofNat_Int, Int.toNat_natCast, ↓If_lit, eA, Nat.beq, List.toArray, reduceAdd, reduceLT, reduceLeDiff, reduceToNat])
  all_goals (unfold sameC sameV; ((try simp only [Bool.not_eq_true', Bool.not_eq_false'] at *); simp only [*, eQ]; done))
theorem TY_bytesS {P : Program} (hP : P = Tryz.prog) : (lkT P 33 = 1) ∧ ((elT P 33 = some ((false, (1, 8)))) ∧ (tyT P 3 = some ((false, 1)))) := by subst hP; refine ⟨?_, ⟨?_, ?_⟩⟩ <;> kernel_rfl
theorem bytesS {P : Program} [Known P] (hP : P = Tryz.prog) (l : List Int) (n : Int) : Fun P 311 [intsS l, .int .i64 n] (.bool (decide ((l.length : Int) = n) && l.all byI)) := by
  refine fun_of (fn := Tryz.f311) (hP ▸ Tryz.func311) (by kernel_rfl) (by kernel_rfl) (by kernel_rfl) (by kernel_rfl) ?_
  have hT := TY_bytesS hP
  have l1 := fun x a b => l1In hP x a b
  clear hP
  intro hl
  have hl0 : l.length ≤ lim := by simpa only [limL, limA, List.length_map] using hl.1
  clear hl
  simp only [Tryz.f311, hT, eA, Nat.beq, List.toArray, reduceAdd, reduceLT, reduceLeDiff, reduceToNat]
  have hl1 : l.length ≤ 140737488355328 := hl0
  refine fun _ => If.mk (fun q => ?_) (fun q => ?_)
  · simp only [Bool.not_eq_true'] at q
    rw [q, Bool.false_and]
  · simp only [Bool.not_eq_false'] at q
    rw [q, Bool.true_and]
    refine wpc_loop {k : Nat // k ≤ l.length ∧ (l.take k).all byI = true} (fun k => ⟨[(0, intsS l), (5, .int .i64 k.1)], [], 0⟩) (fun k => l.length - k.1) ⟨0, Nat.zero_le _, rfl⟩ (Le.of [] (Nat.zero_le _) ?_ ?_ ?_) ?_
    · simp only [eL, eH, eG, leO, Nat.beq, reduceLT]
    · simp only [eL, eH, eG, leO, Nat.beq, reduceLT]; first | done | rfl | simp | omega
    · simp only [eL, eH, eG, leO, Nat.beq, reduceLT]
    · rintro ⟨k, hk, hp⟩
      by_cases hlt : k < l.length
      · have hf : decide ((k : Int) < l.length) = true := decide_eq_true (by omega)
        have gl : ∀ d, (l.map intE).getD k d = intE (l.getD k 0) := fun d => getIn intE l k d 0 hlt
        have hta := take_all byI l k 0 hlt
        have hab := all_bad byI l k 0 hlt
        have hat : byI (l.getD k 0) = (decide (0 ≤ l.getD k 0) && decide (l.getD k 0 ≤ 255)) := rfl
        simp only [hT, hf, gl, intE, Int.toNat_natCast, ↓If_lit, eA, Nat.beq, List.toArray, reduceAdd, reduceLT, reduceLeDiff, reduceToNat]
        (try unfold lim); repeat first | ((with_reducible refine And.intro ?_ ?_); (first | omega | exact ⟨by omega, by omega⟩ | rfl)) | intro _
        have hbad : byI (l.getD k 0) = false → false = l.all byI := fun e => by rw [hab e]
        all_goals repeat' first
          | (refine If.mk (fun q => ?_) (fun q => ?_))
          | (show In64 _; exact ⟨by omega, by omega⟩)
          | (with_reducible refine And.intro ?_ ?_)
          | omega
          | (refine Fun.plain (l1 _ _ _) rfl rfl rfl rfl ?_; simp only [hT, Int.cast_ofNat_Int, Int.toNat_natCast, ↓If_lit, eA, Nat.beq, List.toArray, reduceAdd, reduceLT, reduceLeDiff, reduceToNat])
        all_goals try simp only [Bool.not_eq_true', Bool.not_eq_false'] at *
        all_goals first
          | exact hbad (by clear hbad; rw [hat]; simp only [*, eQ]; done)
          | (have hok : byI (l.getD k 0) = true := by clear hbad; rw [hat]; simp only [*, eQ]; done
             try refine And.intro (show In64 _ from ⟨by omega, by omega⟩) ?_
             refine ⟨⟨k + 1, hlt, by rw [hta, hp, hok]; rfl⟩, by simp only; omega, Le.of [] (Nat.zero_le _) ?_ ?_ ?_⟩
             · simp only [eL, eH, eG, leO, Nat.beq, reduceLT]
             · simp only [eL, eH, eG, leO, Nat.beq, reduceLT]; first | done | rfl | simp | omega
             · simp only [eL, eH, eG, leO, Nat.beq, reduceLT])
      · obtain rfl : k = l.length := by omega
        have hf : decide ((l.length : Int) < l.length) = false := decide_eq_false (by omega)
        rw [List.take_length] at hp
        simp only [hT, hf, ↓If_lit, eA, Nat.beq, List.toArray, reduceAdd, reduceLT, reduceLeDiff, reduceToNat]
        try intro _
        exact hp.symm
theorem TY_vmOkS {P : Program} (hP : P = Tryz.prog) : ((fldT P 148 0 = some ((0, (false, 1)))) ∧ ((tyT P 3 = some ((false, 1))) ∧ (fldT P 148 1 = some ((1, (false, 1)))))) ∧ ((tyT P 33 = some ((false, 1))) ∧ ((fldT P 148 2 = some ((2, (false, 1)))) ∧ (fldT P 148 3 = some ((3, (false, 1)))))) := by subst hP; refine ⟨⟨?_, ⟨?_, ?_⟩⟩, ⟨?_, ⟨?_, ?_⟩⟩⟩ <;> kernel_rfl
theorem vmOkS {P : Program} [Known P] (hP : P = Tryz.prog) (s : VSt) : Fun P 269 [.agg (stS s)] (.bool (vmOkB s)) := by
  refine fun_of (fn := Tryz.f269) (hP ▸ Tryz.func269) (by kernel_rfl) (by kernel_rfl) (by kernel_rfl) (by kernel_rfl) ?_
  have hT := TY_vmOkS hP
  have l1 := fun x a b => l1In hP x a b
  have e := fun l n => bytesS hP l n
  clear hP
  intro hl
  clear hl
  simp only [stS, Tryz.f269, hT, eA, Nat.beq, List.toArray, reduceAdd, reduceLT, reduceLeDiff, reduceToNat]
  rw [show vmOkB s = ((decide (0 ≤ s.1) && decide (s.1 ≤ 24)) && ((decide ((s.2.1.length : Int) = 4) && s.2.1.all byI) && ((decide ((s.2.2.1.length : Int) = 8) && s.2.2.1.all byI) && (decide (0 ≤ s.2.2.2.1) && decide (s.2.2.2.1 ≤ 2))))) from by
    unfold vmOkB vmHd
    generalize s.2.1.all byI = b1
    generalize s.2.2.1.all byI = b2
    cases b1 <;> cases b2 <;> (rw [Bool.eq_iff_iff]; simp; try omega)]
  all_goals repeat' first
    | (refine If.mk (fun q => ?_) (fun q => ?_))
    | (show In64 _; exact ⟨by omega, by omega⟩)
    | (with_reducible refine And.intro ?_ ?_)
    | omega
    | (refine Fun.plain (l1 _ _ _) rfl rfl rfl rfl ?_; simp only [hT, Int.cast_ofNat_Int, Int.toNat_natCast, ↓If_lit, eA, Nat.beq, List.toArray, reduceAdd, reduceLT, reduceLeDiff, reduceToNat])
    | (refine Fun.plain (e _ _) rfl rfl rfl rfl ?_; simp only [hT, Int.cast_ofNat_Int, Int.toNat_natCast, ↓If_lit, eA, Nat.beq, List.toArray, reduceAdd, reduceLT, reduceLeDiff, reduceToNat])
  all_goals ((try simp only [Bool.not_eq_true', Bool.not_eq_false'] at *); simp only [*, eQ]; done)
theorem TY_celOkS {P : Program} (hP : P = Tryz.prog) : ((fldT P 151 0 = some ((0, (true, 4)))) ∧ (tyT P 148 = some ((true, 4)))) ∧ ((fldT P 151 1 = some ((4, (false, 1)))) ∧ ((tyT P 149 = some ((false, 1))) ∧ (lkT P 149 = 1))) := by subst hP; refine ⟨⟨?_, ?_⟩, ⟨?_, ⟨?_, ?_⟩⟩⟩ <;> kernel_rfl
theorem celOkS {P : Program} [Known P] (hP : P = Tryz.prog) (c : VCel) : Fun P 197 [.agg (celS c)] (.bool (celOkB c)) := by
  refine fun_of (fn := Tryz.f197) (hP ▸ Tryz.func197) (by kernel_rfl) (by kernel_rfl) (by kernel_rfl) (by kernel_rfl) ?_
  have hT := TY_celOkS hP
  have e := vmOkS hP c.1
  clear hP
  intro hl
  clear hl
  simp only [celS, Tryz.f197, hT, eA, Nat.beq, List.toArray, reduceAdd, reduceLT, reduceLeDiff, reduceToNat]
  simp only [stS] at e
  unfold celOkB
  all_goals repeat' first
    | (refine If.mk (fun q => ?_) (fun q => ?_))
    | (show In64 _; exact ⟨by omega, by omega⟩)
    | (with_reducible refine And.intro ?_ ?_)
    | omega
    | (refine Fun.plain (e) rfl rfl rfl rfl ?_; simp only [hT, Int.cast_ofNat_Int, Int.toNat_natCast, ↓If_lit, eA, Nat.beq, List.toArray, reduceAdd, reduceLT, reduceLeDiff, reduceToNat])
  all_goals (try intro _)
  all_goals ((try simp only [Bool.not_eq_true', Bool.not_eq_false'] at *); simp only [*, eQ]; done)
theorem TY_boxOkS {P : Program} (hP : P = Tryz.prog) : ((fldT P 163 0 = some ((0, (false, 1)))) ∧ ((tyT P 3 = some ((false, 1))) ∧ (fldT P 163 1 = some ((1, (false, 1)))))) ∧ (((tyT P 79 = some ((false, 1))) ∧ (lkT P 79 = 1)) ∧ ((elT P 79 = some ((false, (1, 24)))) ∧ (tyT P 149 = some ((false, 1))))) := by subst hP; refine ⟨⟨?_, ⟨?_, ?_⟩⟩, ⟨⟨?_, ?_⟩, ⟨?_, ?_⟩⟩⟩ <;> kernel_rfl
theorem boxOkS {P : Program} [Known P] (hP : P = Tryz.prog) (b : VBox) : Fun P 199 [.agg (boxS b)] (.bool (bxB b)) := by
  refine fun_of (fn := Tryz.f199) (hP ▸ Tryz.func199) (by kernel_rfl) (by kernel_rfl) (by kernel_rfl) (by kernel_rfl) ?_
  have hT := TY_boxOkS hP
  have mb := fun m => messageS hP m
  have l1 := fun x a b => l1In hP x a b
  clear hP
  intro hl
  clear hl
  simp only [boxS, Tryz.f199, hT, eA, Nat.beq, List.toArray, reduceAdd, reduceLT, reduceLeDiff, reduceToNat]
  refine Fun.plain (l1 _ _ _) rfl rfl rfl rfl ?_; simp only [hT, eN, ↓If_lit, Int.reduceLT, Int.reduceLE, eA, Nat.beq, List.toArray, reduceAdd, reduceLT, reduceLeDiff, reduceToNat]; (try unfold lim); repeat first | ((with_reducible refine And.intro ?_ ?_); (first | omega | exact ⟨by omega, by omega⟩ | rfl)) | intro _
  have bad : bxHd b = true → false = bxB b := fun h => by unfold bxB; rw [h]; rfl
  rw [not_in]
  refine If.mk (fun q => bad (by unfold bxHd; rw [← Bool.or_assoc, q]; rfl)) (fun q => ?_)
  intro hl1
  refine If.mk (fun q3 => bad (by unfold bxHd; rw [q3]; simp)) (fun q3 => ?_)
  have hhd : bxHd b = false := by unfold bxHd; rw [← Bool.or_assoc, q, q3]; rfl
  clear bad
  (try unfold lim); repeat first | ((with_reducible refine And.intro ?_ ?_); (first | omega | exact ⟨by omega, by omega⟩ | rfl)) | intro _
  refine wpc_loop {k : Nat // k ≤ b.2.1.length ∧ (b.2.1.take k).all msgB = true} (fun k => ⟨[(1, .cp 0 0 0), (3, .int .i64 k.1)], [(0, ⟨2, [boxS b], [], true⟩)], 1⟩) (fun k => b.2.1.length - k.1) ⟨0, Nat.zero_le _, rfl⟩ (Le.of [] (Nat.zero_le _) ?_ ?_ ?_) ?_
  · simp only [eL, eH, eG, leO, Nat.beq, reduceLT]
  · simp only [boxS, eL, eH, eG, leO, Nat.beq, reduceLT]; first | done | rfl | simp | omega
  · simp only [boxS, eL, eH, eG, leO, Nat.beq, reduceLT]
  · rintro ⟨k, hk, hp⟩
    by_cases hlt : k < b.2.1.length
    · have hf : decide ((k : Int) < b.2.1.length) = true := decide_eq_true (by omega)
      have hrow : ∀ d, (b.2.1.map msgS).getD k d = msgS (b.2.1.getD k []) := fun d => getIn msgS b.2.1 k d [] hlt
      have hta := take_all msgB b.2.1 k [] hlt
      have hab := all_bad msgB b.2.1 k [] hlt
      simp only [hT, hf, hrow, boxS, msgS, Int.toNat_natCast, ↓If_lit, eA, Nat.beq, List.toArray, reduceAdd, reduceLT, reduceLeDiff, reduceToNat]
      (try unfold lim); repeat first | ((with_reducible refine And.intro ?_ ?_); (first | omega | exact ⟨by omega, by omega⟩ | rfl)) | intro _
      have hbad : msgB (b.2.1.getD k []) = false → false = bxB b := fun e => by unfold bxB; rw [hab e, Bool.and_false]
      all_goals repeat' first
        | (refine If.mk (fun q => ?_) (fun q => ?_))
        | (show In64 _; exact ⟨by omega, by omega⟩)
        | (with_reducible refine And.intro ?_ ?_)
        | omega
        | (refine Fun.plain (mb _) rfl rfl rfl rfl ?_; simp only [hT, Int.cast_ofNat_Int, Int.toNat_natCast, ↓If_lit, eA, Nat.beq, List.toArray, reduceAdd, reduceLT, reduceLeDiff, reduceToNat])
      all_goals try simp only [Bool.not_eq_true', Bool.not_eq_false'] at *
      all_goals first
        | exact hbad (by clear hbad; simp only [*]; done)
        | (have hok : msgB (b.2.1.getD k []) = true := by clear hbad; simp only [*]; done
           try refine And.intro (show In64 _ from ⟨by omega, by omega⟩) ?_
           refine ⟨⟨k + 1, hlt, by rw [hta, hp, hok]; rfl⟩, by simp only; omega, Le.of [] (Nat.zero_le _) ?_ ?_ ?_⟩
           · simp only [eL, eH, eG, leO, Nat.beq, reduceLT]
           · simp only [boxS, eL, eH, eG, leO, Nat.beq, reduceLT]; first | done | rfl | simp | omega
           · simp only [boxS, eL, eH, eG, leO, Nat.beq, reduceLT])
    · obtain rfl : k = b.2.1.length := by omega
      have hf : decide ((b.2.1.length : Int) < b.2.1.length) = false := decide_eq_false (by omega)
      rw [List.take_length] at hp
      simp only [hT, hf, boxS, ↓If_lit, eA, Nat.beq, List.toArray, reduceAdd, reduceLT, reduceLeDiff, reduceToNat]
      try intro _
      simp [bxB, hhd, hp]
theorem TY_hrdOkS {P : Program} (hP : P = Tryz.prog) : ((fldT P 35 0 = some ((0, (false, 1)))) ∧ ((tyT P 33 = some ((false, 1))) ∧ (lkT P 33 = 1))) ∧ ((fldT P 35 1 = some ((1, (false, 1)))) ∧ ((elT P 33 = some ((false, (1, 8)))) ∧ (tyT P 3 = some ((false, 1))))) := by subst hP; refine ⟨⟨?_, ⟨?_, ?_⟩⟩, ⟨?_, ⟨?_, ?_⟩⟩⟩ <;> kernel_rfl
theorem hrdOkS {P : Program} [Known P] (hP : P = Tryz.prog) (h : VHrd) : Fun P 178 [.agg (hrdS h)] (.bool (hrdB h)) := by
  refine fun_of (fn := Tryz.f178) (hP ▸ Tryz.func178) (by kernel_rfl) (by kernel_rfl) (by kernel_rfl) (by kernel_rfl) ?_
  have hT := TY_hrdOkS hP
  have l1 := fun x a b => l1In hP x a b
  clear hP
  intro hl
  clear hl
  simp only [hrdS, Tryz.f178, hT, eA, Nat.beq, List.toArray, reduceAdd, reduceLT, reduceLeDiff, reduceToNat]
  (try unfold lim); repeat first | ((with_reducible refine And.intro ?_ ?_); (first | omega | exact ⟨by omega, by omega⟩ | rfl)) | intro _
  refine Fun.plain (l1 _ _ _) rfl rfl rfl rfl ?_; simp only [hT, eN, ↓If_lit, Int.reduceLT, Int.reduceLE, eA, Nat.beq, List.toArray, reduceAdd, reduceLT, reduceLeDiff, reduceToNat]; (try unfold lim); repeat first | ((with_reducible refine And.intro ?_ ?_); (first | omega | exact ⟨by omega, by omega⟩ | rfl)) | intro _
  have bad : hrdHd h = true → false = hrdB h := fun e => by unfold hrdB; rw [e]; rfl
  rw [not_in]
  refine If.mk (fun q => bad (by unfold hrdHd; rw [← Bool.or_assoc, q]; rfl)) (fun q => ?_)
  repeat intro _
  refine If.mk (fun q3 => bad (by unfold hrdHd; rw [q3]; simp)) (fun q3 => ?_)
  have hhd : hrdHd h = false := by unfold hrdHd; rw [← Bool.or_assoc, q, q3]; rfl
  have hlen : h.2.1.length = h.1.length := by simp at q3; omega
  have hle4 : h.1.length ≤ 4 := by simp at q; omega
  clear bad
  (try unfold lim); repeat first | ((with_reducible refine And.intro ?_ ?_); (first | omega | exact ⟨by omega, by omega⟩ | rfl)) | intro _
  refine wpc_loop {k : Nat // k ≤ h.1.length ∧ (List.range k).all (hrdAt h) = true} (fun k => ⟨[(1, .cp 0 0 0), (3, .int .i64 k.1)], [(0, ⟨2, [hrdS h], [], true⟩)], 1⟩) (fun k => h.1.length - k.1) ⟨0, Nat.zero_le _, rfl⟩ (Le.of [] (Nat.zero_le _) ?_ ?_ ?_) ?_
  · simp only [eL, eH, eG, leO, Nat.beq, reduceLT]
  · simp only [hrdS, eL, eH, eG, leO, Nat.beq, reduceLT]; first | done | rfl | simp | omega
  · simp only [hrdS, eL, eH, eG, leO, Nat.beq, reduceLT]
  · rintro ⟨k, hk, hp⟩
    by_cases hlt : k < h.1.length
    · have hf : decide ((k : Int) < h.1.length) = true := decide_eq_true (by omega)
      have hr1 : ∀ d, (h.1.map intE).getD k d = intE (h.1.getD k 0) := fun d => getIn intE h.1 k d 0 hlt
      have hr2 : ∀ d, (h.2.1.map intE).getD k d = intE (h.2.1.getD k 0) := fun d => getIn intE h.2.1 k d 0 (by omega)
      have hta := rall_succ (hrdAt h) k
      have hab := rall_bad (hrdAt h) h.1.length k hlt
      have hat : hrdAt h k = ((decide (0 ≤ h.1.getD k 0) && decide (h.1.getD k 0 ≤ 60000)) && ((decide (0 ≤ h.2.1.getD k 0) && decide (h.2.1.getD k 0 ≤ 60000)) && !(decide (h.1.getD k 0 = 0) && decide (0 < h.2.1.getD k 0)))) := by
        unfold hrdAt; rw [Bool.eq_iff_iff]; simp; omega
      simp only [hT, hf, hr1, hr2, hrdS, intE, Int.toNat_natCast, ↓If_lit, eA, Nat.beq, List.toArray, reduceAdd, reduceLT, reduceLeDiff, reduceToNat]
      (try unfold lim); repeat first | ((with_reducible refine And.intro ?_ ?_); (first | omega | exact ⟨by omega, by omega⟩ | rfl)) | intro _
      have hbad : hrdAt h k = false → false = hrdB h := fun e => by unfold hrdB; rw [hab e, Bool.and_false]
      all_goals repeat' first
        | (refine If.mk (fun q => ?_) (fun q => ?_))
        | (show In64 _; exact ⟨by omega, by omega⟩)
        | (with_reducible refine And.intro ?_ ?_)
        | omega
        | (refine Fun.plain (l1 _ _ _) rfl rfl rfl rfl ?_; simp only [hT, hr1, hr2, intE, Int.cast_ofNat_Int, Int.toNat_natCast, ↓If_lit, eA, Nat.beq, List.toArray, reduceAdd, reduceLT, reduceLeDiff, reduceToNat])
      all_goals try simp only [Bool.not_eq_true', Bool.not_eq_false'] at *
      all_goals first
        | exact hbad (by clear hbad; rw [hat]; simp only [*, eQ]; done)
        | (have hok : hrdAt h k = true := by clear hbad; rw [hat]; simp only [*, eQ]; done
           try refine And.intro (show In64 _ from ⟨by omega, by omega⟩) ?_
           refine ⟨⟨k + 1, hlt, by rw [hta, hp, hok]; rfl⟩, by simp only; omega, Le.of [] (Nat.zero_le _) ?_ ?_ ?_⟩
           · simp only [eL, eH, eG, leO, Nat.beq, reduceLT]
           · simp only [hrdS, eL, eH, eG, leO, Nat.beq, reduceLT]; first | done | rfl | simp | omega
           · simp only [hrdS, eL, eH, eG, leO, Nat.beq, reduceLT])
    · obtain rfl : k = h.1.length := by omega
      have hf : decide ((h.1.length : Int) < h.1.length) = false := decide_eq_false (by omega)
      simp only [hT, hf, hrdS, ↓If_lit, eA, Nat.beq, List.toArray, reduceAdd, reduceLT, reduceLeDiff, reduceToNat]
      try intro _
      simp [hrdB, hhd, hp]
def deafAt (b : Int) : Bool := !decide (0 < b)
theorem TY_deafS {P : Program} (hP : P = Tryz.prog) : ((fldT P 35 0 = some ((0, (false, 1)))) ∧ (tyT P 33 = some ((false, 1)))) ∧ ((lkT P 33 = 1) ∧ ((elT P 33 = some ((false, (1, 8)))) ∧ (tyT P 3 = some ((false, 1))))) := by subst hP; refine ⟨⟨?_, ?_⟩, ⟨?_, ⟨?_, ?_⟩⟩⟩ <;> kernel_rfl
theorem deafS {P : Program} [Known P] (hP : P = Tryz.prog) (h : VHrd) (hle : h.1.length ≤ 1048576) : Fun P 179 [.agg (hrdS h)] (.bool (h.1.all deafAt)) := by
  refine fun_of (fn := Tryz.f179) (hP ▸ Tryz.func179) (by kernel_rfl) (by kernel_rfl) (by kernel_rfl) (by kernel_rfl) ?_
  have hT := TY_deafS hP
  clear hP
  intro hl
  clear hl
  simp only [hrdS, Tryz.f179, hT, eA, Nat.beq, List.toArray, reduceAdd, reduceLT, reduceLeDiff, reduceToNat]
  refine wpc_loop {k : Nat // k ≤ h.1.length ∧ (h.1.take k).all deafAt = true} (fun k => ⟨[(1, .cp 0 0 0), (3, .int .i64 k.1)], [(0, ⟨2, [hrdS h], [], true⟩)], 1⟩) (fun k => h.1.length - k.1) ⟨0, Nat.zero_le _, rfl⟩ (Le.of [] (Nat.zero_le _) ?_ ?_ ?_) ?_
  · simp only [eL, eH, eG, leO, Nat.beq, reduceLT]
  · simp only [hrdS, eL, eH, eG, leO, Nat.beq, reduceLT]; first | done | rfl | simp | omega
  · simp only [hrdS, eL, eH, eG, leO, Nat.beq, reduceLT]
  · rintro ⟨k, hk, hp⟩
    by_cases hlt : k < h.1.length
    · have hf : decide ((k : Int) < h.1.length) = true := decide_eq_true (by omega)
      have hr1 : ∀ d, (h.1.map intE).getD k d = intE (h.1.getD k 0) := fun d => getIn intE h.1 k d 0 hlt
      have hta := take_all deafAt h.1 k 0 hlt
      have hab := all_bad deafAt h.1 k 0 hlt
      have hat : deafAt (h.1.getD k 0) = !decide (0 < h.1.getD k 0) := rfl
      simp only [hT, hf, hr1, hrdS, intE, Int.toNat_natCast, ↓If_lit, eA, Nat.beq, List.toArray, reduceAdd, reduceLT, reduceLeDiff, reduceToNat]
      repeat intro _
      (try unfold lim); repeat first | ((with_reducible refine And.intro ?_ ?_); (first | omega | exact ⟨by omega, by omega⟩ | rfl)) | intro _
      have hbad : deafAt (h.1.getD k 0) = false → false = h.1.all deafAt := fun e => by rw [hab e]
      all_goals repeat' first
        | (refine If.mk (fun q => ?_) (fun q => ?_))
        | (show In64 _; exact ⟨by omega, by omega⟩)
        | (with_reducible refine And.intro ?_ ?_)
        | omega
      all_goals try simp only [Bool.not_eq_true', Bool.not_eq_false'] at *
      all_goals first
        | exact hbad (by clear hbad; rw [hat]; simp only [*, eQ]; done)
        | (have hok : deafAt (h.1.getD k 0) = true := by clear hbad; rw [hat]; simp only [*, eQ]; done
           try refine And.intro (show In64 _ from ⟨by omega, by omega⟩) ?_
           refine ⟨⟨k + 1, hlt, by rw [hta, hp, hok]; rfl⟩, by simp only; omega, Le.of [] (Nat.zero_le _) ?_ ?_ ?_⟩
           · simp only [eL, eH, eG, leO, Nat.beq, reduceLT]
           · simp only [hrdS, eL, eH, eG, leO, Nat.beq, reduceLT]; first | done | rfl | simp | omega
           · simp only [hrdS, eL, eH, eG, leO, Nat.beq, reduceLT])
    · obtain rfl : k = h.1.length := by omega
      have hf : decide ((h.1.length : Int) < h.1.length) = false := decide_eq_false (by omega)
      rw [List.take_length] at hp
      simp only [hT, hf, hrdS, ↓If_lit, eA, Nat.beq, List.toArray, reduceAdd, reduceLT, reduceLeDiff, reduceToNat]
      try intro _
      exact hp.symm
end Go.Proofs.YtjlmfcddbcoimaaGreat.C
