/- Bytes of the laws: copied, compared, marked, held. -/
import Derived.Test.YtjlmfcddbcoimaaGreatAvM2
import Derived.Test.YtjlmfcddbcoimaaGreatProg
set_option maxRecDepth 100000
set_option linter.unusedSimpArgs false
set_option linter.unusedVariables false
namespace Go.Proofs.YtjlmfcddbcoimaaGreat.C
open Go Go.Av Go.Proofs
open Nat (reduceAdd reduceLT reduceLeDiff reduceSub)
open Int (reduceToNat)
theorem TY_toByteS {P : Program} (hP : P = Tryz.prog) : ((lkT P 149 = 1) ∧ (mkT P 149 = some ((1, (1, ((.int .u8 0) :: [])))))) ∧ ((elT P 149 = some ((false, (1, 1)))) ∧ (tyT P 5 = some ((false, 1)))) := by subst hP; refine ⟨⟨?_, ?_⟩, ⟨?_, ?_⟩⟩ <;> kernel_rfl
theorem toByteS {P : Program} [Known P] (hP : P = Tryz.prog) (l : List UInt8) : Fun P 213 [B l] (BO l) := by
  refine fun_of (fn := Tryz.f213) (hP ▸ Tryz.func213) (by kernel_rfl) (by kernel_rfl) (by kernel_rfl) (by kernel_rfl) ?_
  have hT := TY_toByteS hP
  clear hP
  intro hl
  simp only [limL, limA, and_true, List.length_map] at hl
  simp only [Tryz.f213, hT, eA, Nat.beq, List.toArray, reduceAdd, reduceLT, reduceLeDiff, reduceToNat]
  have hl' : l.length ≤ 140737488355328 := hl
  refine fun _ => ⟨by omega, by omega, by omega, ?_⟩
  refine wpc_loop {i : Nat // i ≤ l.length} (fun i => ⟨[(0, B l), (3, .os 0), (4, .int .i64 i.1)], [(0, ⟨1, (l.take i.1).map byt ++ List.replicate (l.length - i.1) [.int .u8 0], [.int .u8 0], false⟩)], 1⟩) (fun i => l.length - i.1) ⟨0, Nat.zero_le _⟩ (Le.of [] (Nat.zero_le _) ?_ ?_ ?_) ?_
  · simp only [eL, eH, eG, leO, Nat.beq, reduceLT]
  · simp only [eL, eH, eG, leO, Nat.beq, reduceLT]; simp
  · simp only [eL, eH, eG, leO, Nat.beq, reduceLT]; simp
  · rintro ⟨i, hi⟩
    have hL : (List.map byt (List.take i l) ++ List.replicate (l.length - i) [AV.int .u8 0]).length = l.length := by simp only [List.length_append, List.length_map, List.length_take, List.length_replicate]; omega
    simp only [hT, hL, getByt, eA, Nat.beq, List.toArray, reduceAdd, reduceLT, reduceLeDiff, reduceToNat]
    refine fun _ => ⟨fun h => ?_, fun h => ?_⟩
    · simp only [decide_eq_true_eq] at h
      have hil : i < l.length := by omega
      refine ⟨by omega, by omega, by omega, by omega, by omega, ⟨by omega, by omega⟩, ⟨i + 1, hil⟩, by simp only; omega, Le.of [] (Nat.zero_le _) ?_ ?_ ?_⟩
      · simp only [eL, eH, eG, leO, Nat.beq, reduceLT]
      · simp only [eL, eH, eG, leO, Nat.beq, reduceLT]; simp
      · simp only [eL, eH, eG, leO, Nat.beq, reduceLT]
        rw [← fillSet byt l _ i 0 hil]
        rfl
    · simp only [decide_eq_false_iff_not] at h
      exact fillAll byt l _ i (by omega)
theorem TY_eqByteS {P : Program} (hP : P = Tryz.prog) : ((P.follows .mixedOrders = true) ∧ (lkT P 149 = 1)) ∧ ((elT P 149 = some ((false, (1, 1)))) ∧ (tyT P 5 = some ((false, 1)))) := by subst hP; refine ⟨⟨?_, ?_⟩, ⟨?_, ?_⟩⟩ <;> kernel_rfl
theorem eqByteS {P : Program} [Known P] (hP : P = Tryz.prog) (l r : List UInt8) : Fun P 214 [B l, B r] (.bool (decide (l = r))) := by
  refine fun_of (fn := Tryz.f214) (hP ▸ Tryz.func214) (by kernel_rfl) (by kernel_rfl) (by kernel_rfl) (by kernel_rfl) ?_
  have hT := TY_eqByteS hP
  have hm : P.follows .mixedOrders = true := by subst hP; kernel_rfl
  clear hP
  intro hl
  simp only [limL, limA, and_true, List.length_map] at hl
  simp only [Tryz.f214, hT, eA, Nat.beq, List.toArray, reduceAdd, reduceLT, reduceLeDiff, reduceToNat]
  have hl1 : l.length ≤ 140737488355328 := hl.1
  have hl2 : r.length ≤ 140737488355328 := hl.2
  refine fun _ _ => ⟨fun h => ?_, fun h => ?_⟩
  · simp only [Bool.not_eq_true', decide_eq_false_iff_not] at h
    exact (decide_eq_false (fun e => h (by rw [e]))).symm
  · simp only [Bool.not_eq_false', decide_eq_true_eq] at h
    have hlr : l.length = r.length := by omega
    refine wpc_loop {i : Nat // i ≤ l.length ∧ l.take i = r.take i} (fun i => ⟨[(0, B l), (1, B r), (5, .int .i64 i.1)], [], 0⟩) (fun i => l.length - i.1) ⟨0, by omega, rfl⟩ (Le.of [] (Nat.zero_le _) ?_ ?_ ?_) ?_
    · simp only [eL, eH, eG, leO, Nat.beq, reduceLT]
    · simp only [eL, eH, eG, leO, Nat.beq, reduceLT]; rfl
    · simp only [eL, eH, eG, leO, Nat.beq, reduceLT]
    · rintro ⟨i, hi, hp⟩
      simp only [hT, getByt, eA, Nat.beq, List.toArray, reduceAdd, reduceLT, reduceLeDiff, reduceToNat]
      refine fun _ => ⟨fun h => ?_, fun h => ?_⟩
      · simp only [decide_eq_true_eq] at h
        have hil : i < l.length := by omega
        refine wpc_draw (.take 0 <| .take 1 <| .take 2 <| .take 3 <| .take 4 <| .take 5 <| .take 6 <| .take 7 <| .take 8 .done) hm (by kernel_rfl) ?_
        simp only [hT, getByt, eT, ↓If_lit, PCall, reduceSub, reduceCtorEq, eA, Nat.beq, List.toArray, reduceAdd, reduceLT, reduceLeDiff, reduceToNat]
        have gl : l.getD i 0 = l[i] := by rw [List.getD_eq_getElem?_getD, List.getElem?_eq_getElem hil]; rfl
        have gr : r.getD i 0 = r[i] := by rw [List.getD_eq_getElem?_getD, List.getElem?_eq_getElem (by omega)]; rfl
        refine ⟨by omega, by omega, by omega, by omega, fun hb => ?_, fun hb => ⟨⟨by omega, by omega⟩, ⟨i + 1, hil, ?_⟩, by simp only; omega, Le.of [] (Nat.zero_le _) ?_ ?_ ?_⟩⟩
        · simp only [Bool.not_eq_true', decide_eq_false_iff_not] at hb
          exact (decide_eq_false (fun e => hb (by subst e; rfl))).symm
        · simp only [Bool.not_eq_false', decide_eq_true_eq] at hb
          rw [gl, gr] at hb
          have : l[i] = r[i] := UInt8.toNat_inj.1 (Int.ofNat_inj.1 hb)
          rw [List.take_add_one, List.take_add_one, List.getElem?_eq_getElem hil, List.getElem?_eq_getElem (by omega : i < r.length), this, hp]
        · simp only [eL, eH, eG, leO, Nat.beq, reduceLT]
        · simp only [eL, eH, eG, leO, Nat.beq, reduceLT]; rfl
        · simp only [eL, eH, eG, leO, Nat.beq, reduceLT]
      · simp only [decide_eq_false_iff_not] at h
        obtain rfl : i = l.length := by omega
        rw [List.take_length, hlr, List.take_length] at hp
        exact (decide_eq_true hp).symm
theorem TY_markByteS {P : Program} (hP : P = Tryz.prog) : ((lkT P 149 = 1) ∧ ((utT P 3 = true) ∧ (intT P 5 = some (.u8)))) ∧ (((lkT P 5 = 0) ∧ (byT P 3 = false)) ∧ ((elT P 149 = some ((false, (1, 1)))) ∧ (tyT P 5 = some ((false, 1))))) := by subst hP; refine ⟨⟨?_, ⟨?_, ?_⟩⟩, ⟨⟨?_, ?_⟩, ⟨?_, ?_⟩⟩⟩ <;> kernel_rfl
theorem markByteS {P : Program} [Known P] (hP : P = Tryz.prog) (l : List UInt8) (m : Nat) (h1 : m ≤ 1000000000000) : FunM P 173 1 [.os 0, .int .i64 m] [(0, BH l)] (.int .i64 (m + l.length : Nat)) [(0, BH (mkl m l.length))] := by
  refine fun_ofM (fn := Tryz.f173) (hP ▸ Tryz.func173) (by kernel_rfl) (by kernel_rfl) (by kernel_rfl) (by kernel_rfl) ?_
  have hT := TY_markByteS hP
  clear hP
  intro hl
  rw [← mks_all]
  simp only [Tryz.f173, hT, eA, Nat.beq, List.toArray, reduceAdd, reduceLT, reduceLeDiff, reduceToNat]
  refine wpc_loop {i : Nat // i ≤ l.length} (fun i => ⟨[(0, .os 0), (1, .int .i64 (m + i.1 : Nat)), (5, .int .i64 i.1)], [(0, BH (mks m i.1 l))], 1⟩) (fun i => l.length - i.1) ⟨0, Nat.zero_le _⟩ (Le.of [] (Nat.le_refl _) ?_ ?_ ?_) ?_
  · simp only [eL, eH, eG, leO, Nat.beq, reduceLT]
  · simp only [eL, eH, eG, leO, Nat.beq, reduceLT]; simp
  · simp only [eL, eH, eG, leO, Nat.beq, reduceLT]; simp [mks, mkl]
  · rintro ⟨i, hi⟩
    have hL : (mks m i l).length = l.length := mks_length hi
    simp only [hT, hL, convK, fitsK, getByt, eA, Nat.beq, List.toArray, reduceAdd, reduceLT, reduceLeDiff, reduceToNat]
    unfold lim
    refine fun hlim => ⟨fun h => ?_, fun h => ?_⟩
    · simp only [decide_eq_true_eq] at h
      have hil : i < l.length := by omega
      refine ⟨by omega, by omega, by omega, ⟨by omega, by omega⟩, ⟨by omega, by omega⟩, ⟨i + 1, hil⟩, by simp only; omega, Le.of [] (Nat.le_refl _) ?_ ?_ ?_⟩
      · simp only [eL, eH, eG, leO, Nat.beq, reduceLT]
      · simp only [eL, eH, eG, leO, Nat.beq, reduceLT]; exact ⟨by omega, by omega⟩
      · simp only [eL, eH, eG, leO, Nat.beq, reduceLT]
        rw [← mks_set hil, List.map_set]
        simp only [byt, wrap_byte]
    · simp only [decide_eq_false_iff_not] at h
      obtain rfl : i = l.length := by omega
      exact ⟨rfl, rfl⟩
theorem TY_heldByteS {P : Program} (hP : P = Tryz.prog) : ((lkT P 149 = 1) ∧ ((elT P 149 = some ((false, (1, 1)))) ∧ (tyT P 5 = some ((false, 1))))) ∧ (((utT P 3 = true) ∧ (intT P 5 = some (.u8))) ∧ ((lkT P 5 = 0) ∧ (byT P 3 = false))) := by subst hP; refine ⟨⟨?_, ⟨?_, ?_⟩⟩, ⟨⟨?_, ?_⟩, ⟨?_, ?_⟩⟩⟩ <;> kernel_rfl
theorem heldByteS {P : Program} [Known P] (hP : P = Tryz.prog) (m n : Nat) (h1 : m ≤ 1000000000000) : Fun P 175 [B (mkl m n), .int .i64 m] (.int .i64 (m + n : Nat)) := by
  refine fun_of (fn := Tryz.f175) (hP ▸ Tryz.func175) (by kernel_rfl) (by kernel_rfl) (by kernel_rfl) (by kernel_rfl) ?_
  have hT := TY_heldByteS hP
  clear hP
  intro hl
  simp only [limL, limA, and_true, List.length_map, mkl_length] at hl
  simp only [Tryz.f175, hT, eA, Nat.beq, List.toArray, reduceAdd, reduceLT, reduceLeDiff, reduceToNat]
  have hl' : n ≤ 140737488355328 := hl.1
  refine wpc_loop {i : Nat // i ≤ n} (fun i => ⟨[(0, B (mkl m n)), (1, .int .i64 (m + i.1 : Nat)), (5, .int .i64 i.1)], [], 0⟩) (fun i => n - i.1) ⟨0, Nat.zero_le _⟩ (Le.of [] (Nat.le_refl _) ?_ ?_ ?_) ?_
  · simp only [eL, eH, eG, leO, Nat.beq, reduceLT]
  · simp only [eL, eH, eG, leO, Nat.beq, reduceLT]; simp
  · simp only [eL, eH, eG, leO, Nat.beq, reduceLT]
  · rintro ⟨i, hi⟩
    simp only [hT, mkl_length, convK, fitsK, getByt, eA, Nat.beq, List.toArray, reduceAdd, reduceLT, reduceLeDiff, reduceToNat]
    refine fun hlim => ⟨fun h => ?_, fun h => ?_⟩
    · simp only [decide_eq_true_eq] at h
      have hil : i < n := by omega
      rw [mkl_get hil, wrap_byte]
      simp only [hT, decide_true, Bool.not_true, If_lit, eA, Nat.beq, List.toArray, reduceAdd, reduceLT, reduceLeDiff, reduceToNat]
      refine ⟨by omega, by omega, ⟨by omega, by omega⟩, ⟨by omega, by omega⟩, ⟨i + 1, hil⟩, by simp only; omega, Le.of [] (Nat.le_refl _) ?_ ?_ ?_⟩
      · simp only [eL, eH, eG, leO, Nat.beq, reduceLT]
      · simp only [eL, eH, eG, leO, Nat.beq, reduceLT]; exact ⟨by omega, by omega⟩
      · simp only [eL, eH, eG, leO, Nat.beq, reduceLT]
    · simp only [decide_eq_false_iff_not] at h
      obtain rfl : i = n := by omega
      rfl
end Go.Proofs.YtjlmfcddbcoimaaGreat.C
