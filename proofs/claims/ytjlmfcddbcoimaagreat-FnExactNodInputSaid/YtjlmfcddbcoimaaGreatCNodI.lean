/- Whether boxes, books, cells, lives and halves are ok, by the program's text. -/
import Derived.Test.YtjlmfcddbcoimaaGreatCNodH
set_option maxRecDepth 100000
set_option maxHeartbeats 4000000
set_option linter.unusedSimpArgs false
set_option linter.unusedVariables false
namespace Go.Proofs.YtjlmfcddbcoimaaGreat.C
open Go Go.Av Go.Proofs
open Nat (reduceAdd reduceLT reduceLeDiff reduceSub)
open Int (reduceToNat)
theorem TY_boxOkI {P : Program} (hP : P = Tryz.prog) : ((fldT P 163 0 = some ((0, (false, 1)))) ∧ ((tyT P 3 = some ((false, 1))) ∧ (fldT P 163 1 = some ((1, (false, 1)))))) ∧ (((tyT P 79 = some ((false, 1))) ∧ (lkT P 79 = 1)) ∧ ((elT P 79 = some ((false, (1, 24)))) ∧ (tyT P 149 = some ((false, 1))))) := by subst hP; refine ⟨⟨?_, ⟨?_, ?_⟩⟩, ⟨⟨?_, ?_⟩, ⟨?_, ?_⟩⟩⟩ <;> kernel_rfl
theorem boxOkI {P : Program} [Known P] (hP : P = Tryz.prog) (b : VBox) : Fun P 203 [.agg (boxS b)] (.bool (bxB b)) := by
  refine fun_of (fn := Tryz.f203) (hP ▸ Tryz.func203) (by kernel_rfl) (by kernel_rfl) (by kernel_rfl) (by kernel_rfl) ?_
  have hT := TY_boxOkI hP
  have mb := fun m => messageI hP m
  clear hP
  intro hl
  clear hl
  simp only [boxS, Tryz.f203, hT, eA, Nat.beq, List.toArray, reduceAdd, reduceLT, reduceLeDiff, reduceToNat]
  have bad : bxHd b = true → false = bxB b := fun h => by unfold bxB; rw [h]; rfl
  refine ⟨fun q1 => bad (by unfold bxHd; rw [q1]; rfl), fun q1 => ⟨fun q2 => bad (by unfold bxHd; rw [q2]; simp), fun q2 => ?_⟩⟩
  intro hl1
  refine ⟨fun q3 => bad (by unfold bxHd; rw [q3]; simp), fun q3 => ?_⟩
  have hhd : bxHd b = false := by unfold bxHd; rw [q1, q2, q3]; rfl
  clear bad
  (try unfold lim); repeat first | ((with_reducible refine And.intro ?_ ?_); (first | omega | exact ⟨by omega, by omega⟩ | rfl)) | intro _
  refine wpc_loop {k : Nat // k ≤ b.2.1.length ∧ (b.2.1.take k).all msgB = true} (fun k => ⟨[(22, .sl 1 (b.2.1.map msgS) msgZ), (23, .int .i64 b.2.1.length), (24, .int .i64 k.1)], [], 0⟩) (fun k => b.2.1.length - k.1) ⟨0, Nat.zero_le _, rfl⟩ (Le.of [] (Nat.zero_le _) ?_ ?_ ?_) ?_
  · simp only [eL, eH, eG, leO, Nat.beq, reduceLT]
  · simp only [eL, eH, eG, leO, Nat.beq, reduceLT]; first | done | rfl | simp | omega
  · simp only [eL, eH, eG, leO, Nat.beq, reduceLT]
  · rintro ⟨k, hk, hp⟩
    by_cases hlt : k < b.2.1.length
    · have hf : decide ((k : Int) < b.2.1.length) = true := decide_eq_true (by omega)
      have hrow : ∀ d, (b.2.1.map msgS).getD k d = msgS (b.2.1.getD k []) := fun d => getIn msgS b.2.1 k d [] hlt
      have ex := mb (b.2.1.getD k [])
      have hta := take_all msgB b.2.1 k [] hlt
      have hab := all_bad msgB b.2.1 k [] hlt
      simp only [hT, hf, hrow, msgS, Int.toNat_natCast, ↓If_lit, eA, Nat.beq, List.toArray, reduceAdd, reduceLT, reduceLeDiff, reduceToNat]
      (try unfold lim); repeat first | ((with_reducible refine And.intro ?_ ?_); (first | omega | exact ⟨by omega, by omega⟩ | rfl)) | intro _
      refine Fun.plain (ex) rfl rfl rfl rfl ?_; simp only [hT, eN, ↓If_lit, Int.reduceLT, Int.reduceLE, eA, Nat.beq, List.toArray, reduceAdd, reduceLT, reduceLeDiff, reduceToNat]; (try unfold lim); repeat first | ((with_reducible refine And.intro ?_ ?_); (first | omega | exact ⟨by omega, by omega⟩ | rfl)) | intro _
      refine ⟨fun q => ?_, fun q => ?_⟩
      · have q : msgB (b.2.1.getD k []) = false := by simpa using q
        simp [bxB, hab q]
      · have q : msgB (b.2.1.getD k []) = true := by simpa using q
        refine ⟨⟨by omega, by omega⟩, ⟨k + 1, hlt, by rw [hta, hp, q]; rfl⟩, by simp only; omega, Le.of [] (Nat.zero_le _) ?_ ?_ ?_⟩
        · simp only [eL, eH, eG, leO, Nat.beq, reduceLT]
        · simp only [eL, eH, eG, leO, Nat.beq, reduceLT]; first | done | rfl | simp | omega
        · simp only [eL, eH, eG, leO, Nat.beq, reduceLT]
    · obtain rfl : k = b.2.1.length := by omega
      have hf : decide ((b.2.1.length : Int) < b.2.1.length) = false := decide_eq_false (by omega)
      rw [List.take_length] at hp
      simp only [hT, hf, ↓If_lit, eA, Nat.beq, List.toArray, reduceAdd, reduceLT, reduceLeDiff, reduceToNat]
      simp [bxB, hhd, hp]
theorem TY_nodBoxOkI {P : Program} (hP : P = Tryz.prog) : ((tyT P 163 = some ((true, 2))) ∧ ((fldT P 163 0 = some ((0, (false, 1)))) ∧ (tyT P 3 = some ((false, 1))))) ∧ (((fldT P 160 2 = some ((2, (false, 1)))) ∧ (fldT P 163 1 = some ((1, (false, 1))))) ∧ ((tyT P 79 = some ((false, 1))) ∧ (lkT P 79 = 1))) := by subst hP; refine ⟨⟨?_, ⟨?_, ?_⟩⟩, ⟨⟨?_, ?_⟩, ⟨?_, ?_⟩⟩⟩ <;> kernel_rfl
theorem nodBoxOkI {P : Program} [Known P] (hP : P = Tryz.prog) (b : VBox) (w : VWay) (m : Bool) : Fun P 115 [.agg (boxS b), .agg (wayS w), .bool m] (.bool (boxB b w m)) := by
  refine fun_of (fn := Tryz.f115) (hP ▸ Tryz.func115) (by kernel_rfl) (by kernel_rfl) (by kernel_rfl) (by kernel_rfl) ?_
  have hT := TY_nodBoxOkI hP
  have e := boxOkI hP b
  clear hP
  intro hl
  clear hl
  simp only [boxS, wayS, Tryz.f115, hT, eA, Nat.beq, List.toArray, reduceAdd, reduceLT, reduceLeDiff, reduceToNat]
  simp only [boxS] at e
  refine Fun.plain (e) rfl rfl rfl rfl ?_; simp only [hT, eN, ↓If_lit, Int.reduceLT, Int.reduceLE, eA, Nat.beq, List.toArray, reduceAdd, reduceLT, reduceLeDiff, reduceToNat]; (try unfold lim); repeat first | ((with_reducible refine And.intro ?_ ?_); (first | omega | exact ⟨by omega, by omega⟩ | rfl)) | intro _
  unfold boxB
  refine ⟨fun q => ?_, fun q => by rw [q]; rfl⟩
  rw [q]
  refine ⟨fun q1 => ⟨fun q2 => ?_, fun q2 => ?_⟩, fun q1 => ?_⟩
  · rw [q1, q2]; rfl
  · rw [q1, q2]; intro _; rfl
  · rw [q1]; rfl
theorem TY_nodCellOkI {P : Program} (hP : P = Tryz.prog) : (((P.follows .mixedOrders = true) ∧ (tyT P 151 = some ((true, 5)))) ∧ ((fldT P 151 0 = some ((0, (true, 4)))) ∧ (fldT P 148 0 = some ((0, (false, 1)))))) ∧ (((tyT P 3 = some ((false, 1))) ∧ (fldT P 156 3 = some ((4, (false, 1))))) ∧ ((tyT P 154 = some ((false, 1))) ∧ (lkT P 154 = 1))) := by subst hP; refine ⟨⟨⟨?_, ?_⟩, ⟨?_, ?_⟩⟩, ⟨⟨?_, ?_⟩, ⟨?_, ?_⟩⟩⟩ <;> kernel_rfl
theorem nodCellOkI {P : Program} [Known P] (hP : P = Tryz.prog) (c : VCel) (i : VCell) (m : Bool) : Fun P 114 [.agg (celS c), .agg (cellS i), .bool m] (.bool (celB c i m)) := by
  refine fun_of (fn := Tryz.f114) (hP ▸ Tryz.func114) (by kernel_rfl) (by kernel_rfl) (by kernel_rfl) (by kernel_rfl) ?_
  have hT := TY_nodCellOkI hP
  have hm : P.follows .mixedOrders = true := by subst hP; kernel_rfl
  have e := celOk hP c
  have e2 := celNewI hP
  have e3 := fun d => celSame hP c d
  clear hP
  intro hl
  have hcode := hl.2.1 (codeS i.2.2.2.1) (by simp [cellS])
  simp only [codeS, limA, List.length_map] at hcode
  clear hl
  simp only [celS, cellS, Tryz.f114, hT, eA, Nat.beq, List.toArray, reduceAdd, reduceLT, reduceLeDiff, reduceToNat]
  simp only [celS, stS] at e e3
  simp only [celO, celN, stN, stO] at e2
  refine wpc_draw (.alt 0 (.alt 1 (.take 2 (.take 3 (.take 4 (.take 6 (.alt 5 (.alt 7 (.take 8 (.take 9 (.take 10 (.take 11 (.take 12 (.take 13 (.alt 14 (.alt 15 (.alt 16 (.take 17 (.take 18 (.alt 19 .done .stop))) .stop) .stop) (.alt 15 (.alt 14 (.alt 16 (.take 17 (.take 18 (.alt 19 .done .stop))) .stop) .stop) .stop)))))))) .stop) (.alt 7 (.take 8 (.alt 5 (.take 9 (.take 10 (.take 11 (.take 12 (.take 13 (.alt 14 (.alt 15 (.alt 16 (.take 17 (.take 18 (.alt 19 .done .stop))) .stop) .stop) (.alt 15 (.alt 14 (.alt 16 (.take 17 (.take 18 (.alt 19 .done .stop))) .stop) .stop) .stop))))))) .stop)) .stop)))))) .stop) .stop) hm (by kernel_rfl) ?_
  simp only [hT, eT, ↓If_lit, PCall, reduceSub, reduceCtorEq, eA, Nat.beq, List.toArray, reduceAdd, reduceLT, reduceLeDiff, reduceToNat]
  refine Fun.plain e rfl rfl rfl rfl ?_
  simp only [hT, ↓If_lit, eT, ↓If_lit, PCall, reduceSub, reduceCtorEq, eA, Nat.beq, List.toArray, reduceAdd, reduceLT, reduceLeDiff, reduceToNat]
  unfold celB
  generalize celOkB c = b1 at *
  generalize decide (c.1.1 ≤ (i.2.2.2.1.length : Int)) = b2 at *
  have e3 := e3 celN
  simp only [celN, stN] at e3
  repeat' first
    | (refine If.mk (fun q => ?_) (fun q => ?_))
    | (with_reducible refine And.intro ?_ ?_)
    | (intro _)
    | (refine Fun.plain e2 rfl rfl rfl rfl ?_; simp only [hT, ↓If_lit, eT, ↓If_lit, PCall, reduceSub, reduceCtorEq, eA, Nat.beq, List.toArray, reduceAdd, reduceLT, reduceLeDiff, reduceToNat])
    | (refine Fun.lent e3 (by simp only [Int.cast_ofNat_Int, List.map_cons, List.map_nil, pur, geth, Nat.beq, cond_true, cond_false, rdR_byt, rdL, AV.rd, AV.nbV, AV.nb, rdR_int, rdR_byt]; rfl) (by rfl) rfl rfl rfl ?_; simp only [hT, ↓If_lit, eT, ↓If_lit, PCall, reduceSub, reduceCtorEq, eA, Nat.beq, List.toArray, reduceAdd, reduceLT, reduceLeDiff, reduceToNat])
  all_goals first | done | exact hcode | (clear e e2 e3; first | (simp_all; done) | (simp_all; rfl))
theorem TY_hrdOkI {P : Program} (hP : P = Tryz.prog) : ((fldT P 35 0 = some ((0, (false, 1)))) ∧ ((tyT P 33 = some ((false, 1))) ∧ (lkT P 33 = 1))) ∧ ((fldT P 35 1 = some ((1, (false, 1)))) ∧ ((elT P 33 = some ((false, (1, 8)))) ∧ (tyT P 3 = some ((false, 1))))) := by subst hP; refine ⟨⟨?_, ⟨?_, ?_⟩⟩, ⟨?_, ⟨?_, ?_⟩⟩⟩ <;> kernel_rfl
theorem hrdOkI {P : Program} [Known P] (hP : P = Tryz.prog) (h : VHrd) : Fun P 260 [.agg (hrdS h)] (.bool (hrdB h)) := by
  refine fun_of (fn := Tryz.f260) (hP ▸ Tryz.func260) (by kernel_rfl) (by kernel_rfl) (by kernel_rfl) (by kernel_rfl) ?_
  have hT := TY_hrdOkI hP
  clear hP
  intro hl
  clear hl
  simp only [hrdS, Tryz.f260, hT, eA, Nat.beq, List.toArray, reduceAdd, reduceLT, reduceLeDiff, reduceToNat]
  have bad : hrdHd h = true → false = hrdB h := fun e => by unfold hrdB; rw [e]; rfl
  try intro _
  refine ⟨fun q1 => bad (by unfold hrdHd; rw [q1]; rfl), fun q1 => ?_⟩
  try intro _
  refine ⟨fun q2 => bad (by unfold hrdHd; rw [q2]; simp), fun q2 => ?_⟩
  repeat intro _
  refine ⟨fun q3 => bad (by unfold hrdHd; rw [q3]; simp), fun q3 => ?_⟩
  have hhd : hrdHd h = false := by unfold hrdHd; rw [q1, q2, q3]; rfl
  have hlen : h.2.1.length = h.1.length := by simp at q3; omega
  clear bad
  (try unfold lim); repeat first | ((with_reducible refine And.intro ?_ ?_); (first | omega | exact ⟨by omega, by omega⟩ | rfl)) | intro _
  refine wpc_loop {k : Nat // k ≤ h.1.length ∧ (List.range k).all (hrdAt h) = true} (fun k => ⟨[(1, .cp 0 0 0), (26, intsS h.1), (27, .int .i64 h.1.length), (28, .int .i64 k.1)], [(0, ⟨2, [hrdS h], [], true⟩)], 1⟩) (fun k => h.1.length - k.1) ⟨0, Nat.zero_le _, rfl⟩ (Le.of [] (Nat.zero_le _) ?_ ?_ ?_) ?_
  · simp only [eL, eH, eG, leO, Nat.beq, reduceLT]
  · simp only [hrdS, eL, eH, eG, leO, Nat.beq, reduceLT]; first | done | rfl | simp | omega
  · simp only [hrdS, eL, eH, eG, leO, Nat.beq, reduceLT]
  · rintro ⟨k, hk, hp⟩
    by_cases hlt : k < h.1.length
    · have hf : decide ((k : Int) < h.1.length) = true := decide_eq_true (by omega)
      have hr1 : ∀ d, (h.1.map intE).getD k d = intE (h.1.getD k 0) := fun d => getIn intE h.1 k d 0 hlt
      have hr2 : ∀ d, (h.2.1.map intE).getD k d = intE (h.2.1.getD k 0) := fun d => getIn intE h.2.1 k d 0 (by omega)
      have hta := rall_succ (hrdAt h) k
      have hab := rall_bad (hrdAt h) h.1.length k hlt
      have hat : hrdAt h k = !(decide (h.1.getD k 0 < 0) || (decide (60000 < h.1.getD k 0) || (decide (h.2.1.getD k 0 < 0) || (decide (60000 < h.2.1.getD k 0) || (decide (h.1.getD k 0 = 0) && !decide (h.2.1.getD k 0 = 0)))))) := by
        unfold hrdAt; rw [Bool.eq_iff_iff]; simp
      simp only [hT, hf, hr1, hr2, hrdS, intE, Int.toNat_natCast, ↓If_lit, eA, Nat.beq, List.toArray, reduceAdd, reduceLT, reduceLeDiff, reduceToNat]
      (try unfold lim); repeat first | ((with_reducible refine And.intro ?_ ?_); (first | omega | exact ⟨by omega, by omega⟩ | rfl)) | intro _
      have hbad : hrdAt h k = false → false = hrdB h := fun e => by unfold hrdB; rw [hab e, Bool.and_false]
      repeat' (refine If.mk (fun q => ?_) (fun q => ?_))
      all_goals first
        | exact hbad (by rw [hat]; simp only [*, eQ]; done)
        | (have hok : hrdAt h k = true := by rw [hat]; simp only [*, eQ]; done
           try refine And.intro (show In64 _ from ⟨by omega, by omega⟩) ?_
           refine ⟨⟨k + 1, hlt, by rw [hta, hp, hok]; rfl⟩, by simp only; omega, Le.of [] (Nat.zero_le _) ?_ ?_ ?_⟩
           · simp only [eL, eH, eG, leO, Nat.beq, reduceLT]
           · simp only [hrdS, eL, eH, eG, leO, Nat.beq, reduceLT]; first | done | rfl | simp | omega
           · simp only [hrdS, eL, eH, eG, leO, Nat.beq, reduceLT])
    · obtain rfl : k = h.1.length := by omega
      have hf : decide ((h.1.length : Int) < h.1.length) = false := decide_eq_false (by omega)
      simp only [hT, hf, ↓If_lit, eA, Nat.beq, List.toArray, reduceAdd, reduceLT, reduceLeDiff, reduceToNat]
      simp [hrdB, hhd, hp]
end Go.Proofs.YtjlmfcddbcoimaaGreat.C
