/- Copies in new memory, by the given text: numbers, bytes, machines, cells, boxes, books. -/
import Derived.Test.YtjlmfcddbcoimaaGreatCNodH
import Derived.Test.YtjlmfcddbcoimaaGreatAvM2
set_option maxRecDepth 100000
set_option maxHeartbeats 4000000
set_option linter.unusedSimpArgs false
set_option linter.unusedVariables false
namespace Go.Proofs.YtjlmfcddbcoimaaGreat.C
open Go Go.Av Go.Proofs
open Nat (reduceAdd reduceLT reduceLeDiff reduceSub)
open Int (reduceToNat)
theorem TY_vmCopyS {P : Program} (hP : P = Tryz.prog) : ((zeroT P 148 = some (((.int .i64 0) :: (.nils :: (.nils :: ((.int .i64 0) :: [])))))) ∧ ((mkT P 33 = some ((1, (8, ((.int .i64 0) :: []))))) ∧ (fldT P 148 1 = some ((1, (false, 1)))))) ∧ (((tyT P 33 = some ((false, 1))) ∧ (lkT P 33 = 1)) ∧ ((fldT P 148 2 = some ((2, (false, 1)))) ∧ (tyT P 148 = some ((true, 4))))) := by subst hP; refine ⟨⟨?_, ⟨?_, ?_⟩⟩, ⟨⟨?_, ?_⟩, ⟨?_, ?_⟩⟩⟩ <;> kernel_rfl
theorem vmCopyS {P : Program} [Known P] (hP : P = Tryz.prog) (s : VSt) (h1 : s.2.1.length ≤ 1048576) (h2 : s.2.2.1.length ≤ 1048576) : Fun P 306 [.agg (stS s)] (.agg (stO s)) := by
  refine fun_of (fn := Tryz.f306) (hP ▸ Tryz.func306) (by kernel_rfl) (by kernel_rfl) (by kernel_rfl) (by kernel_rfl) ?_
  have hT := TY_vmCopyS hP
  clear hP
  intro hl
  clear hl
  simp only [stS, stO, Tryz.f306, hT, eA, Nat.beq, List.toArray, reduceAdd, reduceLT, reduceLeDiff, reduceToNat]
  repeat' first | (with_reducible refine And.intro ?_ ?_) | omega | intro _
  all_goals first | done | (simp only [List.length_map]; omega) | rfl | (simp; omega)
theorem TY_bytCopyS {P : Program} (hP : P = Tryz.prog) : (mkT P 149 = some ((1, (1, ((.int .u8 0) :: []))))) ∧ (lkT P 149 = 1) := by subst hP; refine ⟨?_, ?_⟩ <;> kernel_rfl
theorem bytCopyS {P : Program} [Known P] (hP : P = Tryz.prog) (l : List UInt8) : Fun P 307 [B l] (BO l) := by
  refine fun_of (fn := Tryz.f307) (hP ▸ Tryz.func307) (by kernel_rfl) (by kernel_rfl) (by kernel_rfl) (by kernel_rfl) ?_
  have hT := TY_bytCopyS hP
  clear hP
  intro hl
  have hl0 : l.length ≤ lim := by simpa only [limL, limA, List.length_map, and_true] using hl
  clear hl
  simp only [Tryz.f307, hT, eA, Nat.beq, List.toArray, reduceAdd, reduceLT, reduceLeDiff, reduceToNat]
  have hl1 : l.length ≤ 140737488355328 := hl0
  repeat' first | (with_reducible refine And.intro ?_ ?_) | omega | intro _
  all_goals first | done | (simp only [List.length_map]; omega) | rfl | (simp; omega)
theorem TY_celCopyS {P : Program} (hP : P = Tryz.prog) : (((P.follows .mixedOrders = true) ∧ (zeroT P 151 = some (((.int .i64 0) :: (.nils :: (.nils :: ((.int .i64 0) :: (.nils :: [])))))))) ∧ ((fldT P 151 0 = some ((0, (true, 4)))) ∧ ((tyT P 148 = some ((true, 4))) ∧ (fldT P 151 1 = some ((4, (false, 1))))))) ∧ (((tyT P 149 = some ((false, 1))) ∧ (bldT P 151 = true)) ∧ ((plT P 151 0 = some ((0, 4))) ∧ ((plT P 151 1 = some ((4, 1))) ∧ (tyT P 151 = some ((true, 5)))))) := by subst hP; refine ⟨⟨⟨?_, ?_⟩, ⟨?_, ⟨?_, ?_⟩⟩⟩, ⟨⟨?_, ?_⟩, ⟨?_, ⟨?_, ?_⟩⟩⟩⟩ <;> kernel_rfl
theorem celCopyS {P : Program} [Known P] (hP : P = Tryz.prog) (c : VCel) (h1 : c.1.2.1.length ≤ 1048576) (h2 : c.1.2.2.1.length ≤ 1048576) : Fun P 264 [.agg (celS c)] (.agg (celO c)) := by
  refine fun_of (fn := Tryz.f264) (hP ▸ Tryz.func264) (by kernel_rfl) (by kernel_rfl) (by kernel_rfl) (by kernel_rfl) ?_
  have hT := TY_celCopyS hP
  have hm : P.follows .mixedOrders = true := by subst hP; kernel_rfl
  have e1 := vmCopyS hP c.1 h1 h2
  have e2 := bytCopyS hP c.2.1
  clear hP
  intro hl
  clear hl
  simp only [stS, stO] at e1
  simp only [celS, celO, Tryz.f264, hT, eA, Nat.beq, List.toArray, reduceAdd, reduceLT, reduceLeDiff, reduceToNat]
  refine wpc_pre (Le.frz 0 _ (Nat.zero_le _) rfl) ?_
  simp only [frzE, purE, pur, blt01, geth, remh, Nat.beq, cond_true, cond_false, List.length_cons, List.length_nil, Nat.zero_add, List.getD_cons_zero, List.map_cons, List.map_nil, List.drop_zero, Int.cast_ofNat_Int, List.map_cons, List.map_nil, pur, geth, Nat.beq, cond_true, cond_false, rdR_byt, rdL, AV.rd, AV.nbV, AV.nb]
  refine wpc_draw (.take 0 (.take 1 (.take 3 (.take 4 (.alt 2 (.alt 5 (.take 6 (.alt 7 .done .stop)) .stop) .stop))))) hm (by kernel_rfl) ?_
  simp only [hT, ↓If_lit, eT, ↓If_lit, PCall, reduceSub, reduceCtorEq, eA, Nat.beq, List.toArray, reduceAdd, reduceLT, reduceLeDiff, reduceToNat]
  repeat' first
    | (with_reducible refine And.intro ?_ ?_)
    | (refine Fun.plain (e1) rfl rfl rfl rfl ?_; simp only [hT, Int.toNat_natCast, ↓If_lit, eT, ↓If_lit, PCall, reduceSub, reduceCtorEq, eA, Nat.beq, List.toArray, reduceAdd, reduceLT, reduceLeDiff, reduceToNat])
    | (refine Fun.plain (e2) rfl rfl rfl rfl ?_; simp only [hT, Int.toNat_natCast, ↓If_lit, eT, ↓If_lit, PCall, reduceSub, reduceCtorEq, eA, Nat.beq, List.toArray, reduceAdd, reduceLT, reduceLeDiff, reduceToNat])
    | rfl
    | (intro _)
theorem TY_hrdCopyS {P : Program} (hP : P = Tryz.prog) : (((P.follows .mixedOrders = true) ∧ (zeroT P 35 = some ((.nils :: (.nils :: []))))) ∧ ((mkT P 33 = some ((1, (8, ((.int .i64 0) :: []))))) ∧ ((fldT P 35 0 = some ((0, (false, 1)))) ∧ (tyT P 33 = some ((false, 1)))))) ∧ (((lkT P 33 = 1) ∧ ((fldT P 35 1 = some ((1, (false, 1)))) ∧ (bldT P 35 = true))) ∧ ((plT P 35 0 = some ((0, 1))) ∧ ((plT P 35 1 = some ((1, 1))) ∧ (tyT P 35 = some ((true, 2)))))) := by subst hP; refine ⟨⟨⟨?_, ?_⟩, ⟨?_, ⟨?_, ?_⟩⟩⟩, ⟨⟨?_, ⟨?_, ?_⟩⟩, ⟨?_, ⟨?_, ?_⟩⟩⟩⟩ <;> kernel_rfl
theorem hrdCopyS {P : Program} [Known P] (hP : P = Tryz.prog) (h : VHrd) (h1 : h.1.length ≤ 1048576) (h2 : h.2.1.length ≤ 1048576) : Fun P 263 [.agg (hrdS h)] (.agg (hrdO h)) := by
  refine fun_of (fn := Tryz.f263) (hP ▸ Tryz.func263) (by kernel_rfl) (by kernel_rfl) (by kernel_rfl) (by kernel_rfl) ?_
  have hT := TY_hrdCopyS hP
  have hm : P.follows .mixedOrders = true := by subst hP; kernel_rfl
  clear hP
  intro hl
  clear hl
  simp only [hrdS, hrdO, Tryz.f263, hT, eA, Nat.beq, List.toArray, reduceAdd, reduceLT, reduceLeDiff, reduceToNat]
  refine wpc_pre (Le.frz 0 _ (Nat.zero_le _) rfl) ?_
  simp only [frzE, purE, pur, blt01, geth, remh, Nat.beq, cond_true, cond_false, List.length_cons, List.length_nil, Nat.zero_add, List.getD_cons_zero, List.map_cons, List.map_nil, List.drop_zero, Int.cast_ofNat_Int, List.map_cons, List.map_nil, pur, geth, Nat.beq, cond_true, cond_false, rdR_byt, rdL, AV.rd, AV.nbV, AV.nb]
  refine wpc_draw (.take 1 (.take 2 (.take 5 (.take 6 (.alt 0 (.alt 3 (.alt 4 (.alt 7 (.take 8 (.alt 9 .done .stop)) .stop) .stop) (.alt 4 (.alt 3 (.alt 7 (.take 8 (.alt 9 .done .stop)) .stop) .stop) .stop)) (.alt 4 (.alt 0 (.alt 3 (.alt 7 (.take 8 (.alt 9 .done .stop)) .stop) .stop) .stop) .stop)))))) hm (by kernel_rfl) ?_
  simp only [hT, ↓If_lit, eT, ↓If_lit, PCall, reduceSub, reduceCtorEq, eA, Nat.beq, List.toArray, reduceAdd, reduceLT, reduceLeDiff, reduceToNat]
  repeat' first
    | (with_reducible refine And.intro ?_ ?_)
    | (simp only [List.length_map]; omega)
    | omega
    | rfl
    | (intro _)
theorem TY_boxCopyS {P : Program} (hP : P = Tryz.prog) : (((zeroT P 163 = some (((.int .i64 0) :: (.nils :: [])))) ∧ ((mkT P 79 = some ((1, (24, (.nils :: []))))) ∧ (fldT P 163 1 = some ((1, (false, 1)))))) ∧ ((tyT P 79 = some ((false, 1))) ∧ ((lkT P 79 = 1) ∧ (elT P 79 = some ((false, (1, 24))))))) ∧ (((tyT P 149 = some ((false, 1))) ∧ ((fldT P 163 0 = some ((0, (false, 1)))) ∧ (tyT P 3 = some ((false, 1))))) ∧ (((bldT P 163 = true) ∧ (plT P 163 0 = some ((0, 1)))) ∧ ((plT P 163 1 = some ((1, 1))) ∧ (tyT P 163 = some ((true, 2)))))) := by subst hP; refine ⟨⟨⟨?_, ⟨?_, ?_⟩⟩, ⟨?_, ⟨?_, ?_⟩⟩⟩, ⟨⟨?_, ⟨?_, ?_⟩⟩, ⟨⟨?_, ?_⟩, ⟨?_, ?_⟩⟩⟩⟩ <;> kernel_rfl
theorem boxCopyS {P : Program} [Known P] (hP : P = Tryz.prog) (b : VBox) (h1 : b.2.1.length ≤ 1048576) : Fun P 265 [.agg (boxS b)] (.agg (boxO b)) := by
  refine fun_of (fn := Tryz.f265) (hP ▸ Tryz.func265) (by kernel_rfl) (by kernel_rfl) (by kernel_rfl) (by kernel_rfl) ?_
  have hT := TY_boxCopyS hP
  have bc := fun m => bytCopyS hP m
  clear hP
  intro hl
  clear hl
  simp only [boxS, boxO, Tryz.f265, hT, eA, Nat.beq, List.toArray, reduceAdd, reduceLT, reduceLeDiff, reduceToNat]
  have hl1 : b.2.1.length ≤ 140737488355328 := by omega
  repeat' first | (with_reducible refine And.intro ?_ ?_) | omega | intro _
  refine wpc_loop {k : Nat // k ≤ b.2.1.length} (fun k => ⟨[(1, .cp 0 0 0), (2, .cp 1 0 0), (3, .os 2), (4, .int .i64 k.1)], [(2, ⟨1, (b.2.1.take k.1).map msgO, msgZ, false⟩), (1, ⟨2, [boxZ], [], true⟩), (0, ⟨2, [boxS b], [], true⟩)], 3⟩) (fun k => b.2.1.length - k.1) ⟨0, Nat.zero_le _⟩ (Le.of [] (Nat.zero_le _) ?_ ?_ ?_) ?_
  · simp only [eL, eH, eG, leO, Nat.beq, reduceLT]
  · simp only [boxS, eL, eH, eG, leO, Nat.beq, reduceLT]; first | done | rfl | simp | omega
  · simp only [boxS, eL, eH, eG, leO, Nat.beq, reduceLT]; try rfl
  · rintro ⟨k, hk⟩
    by_cases hlt : k < b.2.1.length
    · have hf : decide ((k : Int) < b.2.1.length) = true := decide_eq_true (by omega)
      have hr1 : ∀ d, (b.2.1.map msgS).getD k d = msgS (b.2.1.getD k []) := fun d => getIn msgS b.2.1 k d [] hlt
      have hLk : (b.2.1.take k).length = k := by rw [List.length_take]; omega
      have ex := bc (b.2.1.getD k [])
      have hap : (b.2.1.take k).map msgO ++ [msgO (b.2.1.getD k [])] = (b.2.1.take (k + 1)).map msgO := by
        rw [List.take_add_one, List.getElem?_eq_getElem hlt, List.map_append, List.getD_eq_getElem?_getD, List.getElem?_eq_getElem hlt]; rfl
      simp only [msgS] at hr1
      simp only [msgO] at hap
      simp only [hT, hf, hr1, boxS, Int.toNat_natCast, ↓If_lit, eA, Nat.beq, List.toArray, reduceAdd, reduceLT, reduceLeDiff, reduceToNat]
      repeat' first | (with_reducible refine And.intro ?_ ?_) | omega | intro _
      refine Fun.plain ex rfl rfl rfl rfl ?_
      simp only [hT, hLk, hap, List.length_map, ↓If_lit, eA, Nat.beq, List.toArray, reduceAdd, reduceLT, reduceLeDiff, reduceToNat]
      repeat' first | (with_reducible refine And.intro ?_ ?_) | omega | intro _
      all_goals first | (show In64 _; exact ⟨by omega, by omega⟩) | (refine ⟨⟨k + 1, hlt⟩, by simp only; omega, Le.of [(2, some 5)] (Nat.zero_le _) ?_ ?_ ?_⟩ <;> first | (simp only [boxS, eL, eH, eG, leO, Nat.beq, reduceLT]; done) | (simp only [boxS, eL, eH, eG, leO, Nat.beq, reduceLT]; first | done | rfl | omega | simp)) | skip
    · obtain rfl : k = b.2.1.length := by omega
      have hf : decide ((b.2.1.length : Int) < b.2.1.length) = false := decide_eq_false (by omega)
      simp only [hT, hf, List.take_length, boxS, ↓If_lit, eA, Nat.beq, List.toArray, reduceAdd, reduceLT, reduceLeDiff, reduceToNat]
      repeat' first | (with_reducible refine And.intro ?_ ?_) | omega | intro _
      all_goals first | done | trivial | rfl
end Go.Proofs.YtjlmfcddbcoimaaGreat.C
