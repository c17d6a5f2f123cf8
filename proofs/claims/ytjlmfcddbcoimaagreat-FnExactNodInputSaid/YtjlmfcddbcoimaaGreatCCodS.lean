/- Programs: whether they are ok, by the given text. -/
import Derived.Test.YtjlmfcddbcoimaaGreatCCod
set_option maxRecDepth 100000
set_option maxHeartbeats 4000000
set_option linter.unusedSimpArgs false
set_option linter.unusedVariables false
namespace Go.Proofs.YtjlmfcddbcoimaaGreat.C
open Go Go.Av Go.Proofs
open Nat (reduceAdd reduceLT reduceLeDiff reduceSub)
open Int (reduceToNat)
def shp : Nat → List UInt8
  | 1 => [114, 118, 45]
  | 5 => [114, 114, 114]
  | 8 => [112, 114, 45]
  | 9 | 10 => [119, 114, 114]
  | 12 => [114, 45, 45]
  | 13 | 14 => [45, 45, 45]
  | 2 | 3 | 4 | 6 | 7 | 11 => [114, 114, 45]
  | _ => []
theorem TY_codD {P : Program} (hP : P = Tryz.prog) : True := trivial
theorem shape {P : Program} [Known P] (hP : P = Tryz.prog) (n : Int) : Fun P 325 [.int .i64 n] (.str ⟨(bif opOk n then shp n.toNat else []).toArray⟩) := by
  refine fun_of (fn := Tryz.f325) (hP ▸ Tryz.func325) (by kernel_rfl) (by kernel_rfl) (by kernel_rfl) (by kernel_rfl) ?_
  have hT := TY_codD hP
  clear hP
  intro hl
  clear hl
  cases q : opOk n with
  | true =>
    obtain ⟨a, rfl, h⟩ := op_nat q
    clear q
    rcases h with rfl | rfl | rfl | rfl | rfl | rfl | rfl | rfl | rfl | rfl | rfl | rfl | rfl | rfl <;> (simp only [Tryz.f325, hT, Int.cast_ofNat_Int, Int.reduceEq, decide_true, decide_false, If_lit, eA, Nat.beq, List.toArray, reduceAdd, reduceLT, reduceLeDiff, reduceToNat]; rfl)
  | false =>
    unfold opOk at q
    simp only [Bool.and_eq_false_iff, decide_eq_false_iff_not] at q
    simp only [Tryz.f325, hT, decide_eq_false (show ¬n = 1 by omega), decide_eq_false (show ¬n = 2 by omega), decide_eq_false (show ¬n = 3 by omega), decide_eq_false (show ¬n = 4 by omega), decide_eq_false (show ¬n = 5 by omega), decide_eq_false (show ¬n = 6 by omega), decide_eq_false (show ¬n = 7 by omega), decide_eq_false (show ¬n = 8 by omega), decide_eq_false (show ¬n = 9 by omega), decide_eq_false (show ¬n = 10 by omega), decide_eq_false (show ¬n = 11 by omega), decide_eq_false (show ¬n = 12 by omega), decide_eq_false (show ¬n = 13 by omega), decide_eq_false (show ¬n = 14 by omega), If_lit, cond_false, eA, Nat.beq, List.toArray, reduceAdd, reduceLT, reduceLeDiff, reduceToNat]
theorem fits {P : Program} [Known P] (hP : P = Tryz.prog) (k x : Int) : Fun P 326 [.int .u8 k, .int .i64 x] (.bool (nOk (mst k) x)) := by
  refine fun_of (fn := Tryz.f326) (hP ▸ Tryz.func326) (by kernel_rfl) (by kernel_rfl) (by kernel_rfl) (by kernel_rfl) ?_
  have hT := TY_codD hP
  have l1 := fun c => (l1In hP x 0 c : _)
  clear hP
  intro hl
  clear hl
  simp only [Tryz.f326, hT, eA, Nat.beq, List.toArray, reduceAdd, reduceLT, reduceLeDiff, reduceToNat]
  unfold mst nOk
  refine ⟨fun q => ?_, fun q => ⟨fun q2 => ?_, fun q2 => ⟨fun q3 => ?_, fun q3 => ⟨fun q4 => ?_, fun q4 => ?_⟩⟩⟩⟩
  · refine Fun.plain (l1 3) rfl rfl rfl rfl ?_; simp only [hT, eN, ↓If_lit, Int.reduceLT, Int.reduceLE, eA, Nat.beq, List.toArray, reduceAdd, reduceLT, reduceLeDiff, reduceToNat]; (try unfold lim); repeat first | ((with_reducible refine And.intro ?_ ?_); (first | omega | exact ⟨by omega, by omega⟩ | rfl)) | intro _
    simp only [decide_eq_true_eq] at q; rw [if_pos q]
  · refine Fun.plain (l1 255) rfl rfl rfl rfl ?_; simp only [hT, eN, ↓If_lit, Int.reduceLT, Int.reduceLE, eA, Nat.beq, List.toArray, reduceAdd, reduceLT, reduceLeDiff, reduceToNat]; (try unfold lim); repeat first | ((with_reducible refine And.intro ?_ ?_); (first | omega | exact ⟨by omega, by omega⟩ | rfl)) | intro _
    simp only [decide_eq_true_eq, decide_eq_false_iff_not] at q q2; rw [if_neg q, if_pos q2]
  · refine Fun.plain (l1 24) rfl rfl rfl rfl ?_; simp only [hT, eN, ↓If_lit, Int.reduceLT, Int.reduceLE, eA, Nat.beq, List.toArray, reduceAdd, reduceLT, reduceLeDiff, reduceToNat]; (try unfold lim); repeat first | ((with_reducible refine And.intro ?_ ?_); (first | omega | exact ⟨by omega, by omega⟩ | rfl)) | intro _
    simp only [decide_eq_true_eq, decide_eq_false_iff_not] at q q2 q3; rw [if_neg q, if_neg q2, if_pos q3]
  · refine Fun.plain (l1 9) rfl rfl rfl rfl ?_; simp only [hT, eN, ↓If_lit, Int.reduceLT, Int.reduceLE, eA, Nat.beq, List.toArray, reduceAdd, reduceLT, reduceLeDiff, reduceToNat]; (try unfold lim); repeat first | ((with_reducible refine And.intro ?_ ?_); (first | omega | exact ⟨by omega, by omega⟩ | rfl)) | intro _
    simp only [decide_eq_true_eq, decide_eq_false_iff_not] at q q2 q3 q4; rw [if_neg q, if_neg q2, if_neg q3, if_pos q4]
  · simp only [decide_eq_true_eq, decide_eq_false_iff_not] at q q2 q3 q4; rw [if_neg q, if_neg q2, if_neg q3, if_neg q4]
    by_cases h : x = 0
    · subst h; rfl
    · rw [decide_eq_false h, ← Bool.decide_and, decide_eq_false (by omega)]
theorem ordOk_shp {n : Nat} (h : n = 1 ∨ n = 2 ∨ n = 3 ∨ n = 4 ∨ n = 5 ∨ n = 6 ∨ n = 7 ∨ n = 8 ∨ n = 9 ∨ n = 10 ∨ n = 11 ∨ n = 12 ∨ n = 13 ∨ n = 14) : (shp n).length = 3 ∧ mo n 0 = mst ((shp n).toArray.getD 0 0).toNat ∧ mo n 1 = mst ((shp n).toArray.getD 1 0).toNat ∧ mo n 2 = mst ((shp n).toArray.getD 2 0).toNat := by
  rcases h with rfl | rfl | rfl | rfl | rfl | rfl | rfl | rfl | rfl | rfl | rfl | rfl | rfl | rfl <;> decide
theorem TY_codE {P : Program} (hP : P = Tryz.prog) : (((P.follows .mixedOrders = true) ∧ (fldT P 274 0 = some ((0, (false, 1))))) ∧ ((tyT P 3 = some ((false, 1))) ∧ (lkT P 9 = 2))) ∧ (((arT P 9 = none) ∧ (fldT P 274 1 = some ((1, (false, 1))))) ∧ ((fldT P 274 2 = some ((2, (false, 1)))) ∧ (fldT P 274 3 = some ((3, (false, 1)))))) := by subst hP; refine ⟨⟨⟨?_, ?_⟩, ⟨?_, ?_⟩⟩, ⟨⟨?_, ?_⟩, ⟨?_, ?_⟩⟩⟩ <;> kernel_rfl
theorem ordOkS {P : Program} [Known P] (hP : P = Tryz.prog) (o : VOrd) : Fun P 320 [.agg (ordE o)] (.bool (ordOk o)) := by
  refine fun_of (fn := Tryz.f320) (hP ▸ Tryz.func320) (by kernel_rfl) (by kernel_rfl) (by kernel_rfl) (by kernel_rfl) ?_
  have hT := TY_codE hP
  have hm : P.follows .mixedOrders = true := by subst hP; kernel_rfl
  have sh := shape hP o.1
  have ft := fun k x => fits hP k x
  clear hP
  intro hl
  clear hl
  obtain ⟨n, a, b, c, u⟩ := o
  simp only [ordE, Tryz.f320, hT, eA, Nat.beq, List.toArray, reduceAdd, reduceLT, reduceLeDiff, reduceToNat]
  cases q : opOk n with
  | false =>
    simp only [q, cond_false] at sh
    refine Fun.plain (sh) rfl rfl rfl rfl ?_; simp only [hT, eN, ↓If_lit, Int.reduceLT, Int.reduceLE, eA, Nat.beq, List.toArray, reduceAdd, reduceLT, reduceLeDiff, reduceToNat]; (try unfold lim); repeat first | ((with_reducible refine And.intro ?_ ?_); (first | omega | exact ⟨by omega, by omega⟩ | rfl)) | intro _
    have hsz : ByteArray.size ⟨#[]⟩ = 0 := rfl
    refine wpc_read [0, 1, 2, 3, 4, 5, 6, 7, 8, 9, 10, 11, 12, 13, 14, 15, 16, 17, 18, 19, 20, 21, 22, 23, 24] hm (by kernel_rfl) ?_
    simp only [hT, hsz, Int.reduceEq, decide_false, Int.cast_ofNat_Int, If_lit, eT, ↓If_lit, reduceSub, reduceCtorEq, eA, Nat.beq, List.toArray, reduceAdd, reduceLT, reduceLeDiff, reduceToNat]
    refine ⟨Nat.zero_le _, ?_⟩
    unfold ordOk
    rw [q]; rfl
  | true =>
    obtain ⟨m, rfl, h⟩ := op_nat q
    obtain ⟨e3, e0, e1, e2⟩ := ordOk_shp h
    unfold ordOk
    simp only [Int.toNat_natCast, q, Bool.true_and]
    simp only [q, cond_true, Int.toNat_natCast] at sh
    generalize shp m = K at *
    refine Fun.plain (sh) rfl rfl rfl rfl ?_; simp only [hT, eN, ↓If_lit, Int.reduceLT, Int.reduceLE, eA, Nat.beq, List.toArray, reduceAdd, reduceLT, reduceLeDiff, reduceToNat]; (try unfold lim); repeat first | ((with_reducible refine And.intro ?_ ?_); (first | omega | exact ⟨by omega, by omega⟩ | rfl)) | intro _
    have hsz : ByteArray.size ⟨K.toArray⟩ = 3 := e3
    have hsz : (ByteArray.mk (Array.mk K)).size = 3 := e3
    refine wpc_read [0, 1, 2, 3, 4, 5, 6, 7, 8, 9, 10, 11, 12, 13, 14, 15, 16, 17, 18, 19, 20, 21, 22, 23, 24] hm (by kernel_rfl) ?_
    simp only [hT, hsz, decide_true, Int.cast_ofNat_Int, If_lit, Int.reduceLT, Int.reduceLE, eT, ↓If_lit, reduceSub, reduceCtorEq, eA, Nat.beq, List.toArray, reduceAdd, reduceLT, reduceLeDiff, reduceToNat]
    (try unfold lim); repeat first | ((with_reducible refine And.intro ?_ ?_); (first | omega | exact ⟨by omega, by omega⟩ | rfl)) | intro _
    refine Fun.pcall (ft _ _) (by exact rfl) rfl rfl rfl rfl ?_; simp only [hT, nneg, decide_true, decide_false, ↓If_lit, Int.cast_ofNat_Int, Int.reduceLT, Int.reduceLE, hsz, eT, ↓If_lit, reduceSub, reduceCtorEq, eA, Nat.beq, List.toArray, reduceAdd, reduceLT, reduceLeDiff, reduceToNat]; (try unfold lim); repeat first | ((with_reducible refine And.intro ?_ ?_); (first | omega | exact ⟨by omega, by omega⟩ | rfl)) | intro _
    refine ⟨fun q1 => ?_, fun q1 => ?_⟩
    · (try unfold lim); repeat first | ((with_reducible refine And.intro ?_ ?_); (first | omega | exact ⟨by omega, by omega⟩ | rfl)) | intro _
      refine Fun.pcall (ft _ _) (by exact rfl) rfl rfl rfl rfl ?_; simp only [hT, nneg, decide_true, decide_false, ↓If_lit, Int.cast_ofNat_Int, Int.reduceLT, Int.reduceLE, hsz, eT, ↓If_lit, reduceSub, reduceCtorEq, eA, Nat.beq, List.toArray, reduceAdd, reduceLT, reduceLeDiff, reduceToNat]; (try unfold lim); repeat first | ((with_reducible refine And.intro ?_ ?_); (first | omega | exact ⟨by omega, by omega⟩ | rfl)) | intro _
      refine ⟨fun q2 => ?_, fun q2 => ?_⟩
      · (try unfold lim); repeat first | ((with_reducible refine And.intro ?_ ?_); (first | omega | exact ⟨by omega, by omega⟩ | rfl)) | intro _
        refine Fun.pcall (ft _ _) (by exact rfl) rfl rfl rfl rfl ?_; simp only [hT, nneg, decide_true, decide_false, ↓If_lit, Int.cast_ofNat_Int, Int.reduceLT, Int.reduceLE, hsz, eT, ↓If_lit, reduceSub, reduceCtorEq, eA, Nat.beq, List.toArray, reduceAdd, reduceLT, reduceLeDiff, reduceToNat]; (try unfold lim); repeat first | ((with_reducible refine And.intro ?_ ?_); (first | omega | exact ⟨by omega, by omega⟩ | rfl)) | intro _
        have q1 : nOk (mo m 0) a = true := by rw [e0]; exact q1
        have q2 : nOk (mo m 1) b = true := by rw [e1]; exact q2
        rw [q1, q2, e2]; rfl
      · have q1 : nOk (mo m 0) a = true := by rw [e0]; exact q1
        have q2 : nOk (mo m 1) b = false := by rw [e1]; exact q2
        rw [q1, q2]; rfl
    · have q1 : nOk (mo m 0) a = false := by rw [e0]; exact q1
      rw [q1]; rfl
theorem TY_codF {P : Program} (hP : P = Tryz.prog) : ((lkT P 154 = 1) ∧ ((elT P 154 = some ((true, (4, 32)))) ∧ (tyT P 274 = some ((true, 4))))) ∧ ((fldT P 274 0 = some ((0, (false, 1)))) ∧ ((tyT P 3 = some ((false, 1))) ∧ (fldT P 274 1 = some ((1, (false, 1)))))) := by subst hP; refine ⟨⟨?_, ⟨?_, ?_⟩⟩, ⟨?_, ⟨?_, ?_⟩⟩⟩ <;> kernel_rfl
theorem codOkS {P : Program} [Known P] (hP : P = Tryz.prog) (l : List VOrd) : Fun P 313 [codeS l] (.bool (codOk l)) := by
  refine fun_of (fn := Tryz.f313) (hP ▸ Tryz.func313) (by kernel_rfl) (by kernel_rfl) (by kernel_rfl) (by kernel_rfl) ?_
  have hT := TY_codF hP
  have oo := @ordOkS P _ hP
  clear hP
  intro hl
  simp only [limL, limA, and_true, List.length_map] at hl
  simp only [Tryz.f313, hT, eA, Nat.beq, List.toArray, reduceAdd, reduceLT, reduceLeDiff, reduceToNat]
  have hl' : l.length ≤ 140737488355328 := hl
  refine fun _ => ⟨fun h => ?_, fun h => ?_⟩
  · simp only [decide_eq_true_eq] at h
    exact (codOk_long (by omega)).symm
  · simp only [decide_eq_false_iff_not] at h
    refine wpc_loop {i : Nat // i ≤ l.length ∧ ∀ j, j < i → ordIn l.length (l.getD j o0) = true} (fun i => ⟨[(0, codeS l), (3, .int .i64 i.1)], [], 0⟩) (fun i => l.length - i.1) ⟨0, Nat.zero_le _, fun j hj => absurd hj (by omega)⟩ (Le.of [] (Nat.zero_le _) ?_ ?_ ?_) ?_
    · simp only [eL, eH, eG, leO, Nat.beq, reduceLT]
    · simp only [eL, eH, eG, leO, Nat.beq, reduceLT]; rfl
    · simp only [eL, eH, eG, leO, Nat.beq, reduceLT]
    · rintro ⟨i, hi, hp⟩
      simp only [hT, getOrd, ordE, eA, Nat.beq, List.toArray, reduceAdd, reduceLT, reduceLeDiff, reduceToNat]
      refine fun _ => ⟨fun h2 => ?_, fun h2 => ?_⟩
      · simp only [decide_eq_true_eq] at h2
        have hil : i < l.length := by omega
        (try unfold lim); repeat first | ((with_reducible refine And.intro ?_ ?_); (first | omega | exact ⟨by omega, by omega⟩ | rfl)) | intro _
        have oi := oo (l.getD i o0)
        simp only [ordE] at oi
        refine Fun.plain oi rfl rfl rfl rfl ?_
        simp only [hT, nneg, getOrd, ordE, eA, Nat.beq, List.toArray, reduceAdd, reduceLT, reduceLeDiff, reduceToNat]
        (try unfold lim); repeat first | ((with_reducible refine And.intro ?_ ?_); (first | omega | exact ⟨by omega, by omega⟩ | rfl)) | intro _
        have next : ordIn l.length (l.getD i o0) = true → ∃ x' : {i : Nat // i ≤ l.length ∧ ∀ j, j < i → ordIn l.length (l.getD j o0) = true}, x'.val = i + 1 := fun h => ⟨⟨i + 1, hil, upto hp h⟩, rfl⟩
        generalize hR : codOk l = R
        have bad : ordIn l.length (l.getD i o0) = false → false = R := fun h => by rw [← hR, codOk_not hil h]
        unfold ordIn at bad next
        repeat' first
          | with_reducible refine If.mk (fun _ => ?_) (fun _ => ?_)
          | (with_reducible refine bad ?_; clear next bad oo oi hT; simp_all; done)
          | (refine ⟨⟨by omega, by omega⟩, ?_⟩
             obtain ⟨x', hx⟩ := next (by clear next bad oo oi hT; simp_all)
             refine ⟨x', by omega, Le.of [] (Nat.zero_le _) ?_ ?_ ?_⟩ <;> simp only [eL, eH, eG, leO, Nat.beq, reduceLT] <;> omega)
          | with_reducible refine And.intro (by omega) ?_
          | intro _
      · simp only [decide_eq_false_iff_not] at h2
        obtain rfl : i = l.length := by omega
        exact (codOk_in (by omega) hp).symm
end Go.Proofs.YtjlmfcddbcoimaaGreat.C
