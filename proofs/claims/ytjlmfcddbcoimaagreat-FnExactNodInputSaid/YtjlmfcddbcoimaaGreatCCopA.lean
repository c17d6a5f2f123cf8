/- Copies in new memory, by both texts: numbers, bytes, machines, cells, boxes. -/
import Derived.Test.YtjlmfcddbcoimaaGreatCNodH
import Derived.Test.YtjlmfcddbcoimaaGreatAvM2
set_option maxRecDepth 100000
set_option maxHeartbeats 4000000
set_option linter.unusedSimpArgs false
set_option linter.unusedVariables false
namespace Go.Proofs.YtjlmfcddbcoimaaGreat.C
open Go Go.Av Go.Proofs
open Nat (reduceAdd reduceLT reduceLeDiff reduceSub)
open Int (reduceToNat)
theorem TY_vmNumbersI {P : Program} (hP : P = Tryz.prog) : (lkT P 33 = 1) ∧ ((mkT P 33 = some ((1, (8, ((.int .i64 0) :: []))))) ∧ (elT P 33 = some ((false, (1, 8))))) := by subst hP; refine ⟨?_, ⟨?_, ?_⟩⟩ <;> kernel_rfl
theorem vmNumbersI {P : Program} [Known P] (hP : P = Tryz.prog) (l : List Int) (hm : l.length ≤ 1048576) : Fun P 191 [intsS l] (intsO l) := by
  refine fun_of (fn := Tryz.f191) (hP ▸ Tryz.func191) (by kernel_rfl) (by kernel_rfl) (by kernel_rfl) (by kernel_rfl) ?_
  have hT := TY_vmNumbersI hP
  clear hP
  intro hl
  have hl0 : l.length ≤ lim := by simpa only [limL, limA, List.length_map, and_true] using hl
  clear hl
  simp only [Tryz.f191, hT, eA, Nat.beq, List.toArray, reduceAdd, reduceLT, reduceLeDiff, reduceToNat]
  have hl1 : l.length ≤ 140737488355328 := hl0
  repeat intro _
  refine If.mk (fun q => ?_) (fun q => ?_)
  · have hz : l = [] := by simp at q; simpa using q
    subst hz
    rfl
  · repeat' first | (with_reducible refine And.intro ?_ ?_) | omega | intro _
    have hL : (List.replicate l.length iZ).length = l.length := List.length_replicate
    try simp only [hT, hL, Nat.le_refl, eA, Nat.beq, List.toArray, reduceAdd, reduceLT, reduceLeDiff, reduceToNat]
    repeat' first | (with_reducible refine And.intro ?_ ?_) | omega | intro _
    all_goals first | done | exact List.take_of_length_le (by simp) | (simp; exact List.take_of_length_le (by simp)) | (simp; done)
theorem TY_bytCopyI {P : Program} (hP : P = Tryz.prog) : (lkT P 149 = 1) ∧ ((mkT P 149 = some ((1, (1, ((.int .u8 0) :: []))))) ∧ (elT P 149 = some ((false, (1, 1))))) := by subst hP; refine ⟨?_, ⟨?_, ?_⟩⟩ <;> kernel_rfl
theorem bytCopyI {P : Program} [Known P] (hP : P = Tryz.prog) (l : List UInt8) : Fun P 309 [B l] (BO l) := by
  refine fun_of (fn := Tryz.f309) (hP ▸ Tryz.func309) (by kernel_rfl) (by kernel_rfl) (by kernel_rfl) (by kernel_rfl) ?_
  have hT := TY_bytCopyI hP
  clear hP
  intro hl
  have hl0 : l.length ≤ lim := by simpa only [limL, limA, List.length_map, and_true] using hl
  clear hl
  simp only [Tryz.f309, hT, eA, Nat.beq, List.toArray, reduceAdd, reduceLT, reduceLeDiff, reduceToNat]
  have hl1 : l.length ≤ 140737488355328 := hl0
  repeat intro _
  refine If.mk (fun q => ?_) (fun q => ?_)
  · have hz : l = [] := by simp at q; simpa using q
    subst hz
    rfl
  · repeat' first | (with_reducible refine And.intro ?_ ?_) | omega | intro _
    have hL : (List.replicate l.length [AV.int .u8 0]).length = l.length := List.length_replicate
    try simp only [hT, hL, Nat.le_refl, eA, Nat.beq, List.toArray, reduceAdd, reduceLT, reduceLeDiff, reduceToNat]
    repeat' first | (with_reducible refine And.intro ?_ ?_) | omega | intro _
    all_goals first | done | exact List.take_of_length_le (by simp) | (simp; exact List.take_of_length_le (by simp)) | (simp; done)
theorem TY_vmCopyI {P : Program} (hP : P = Tryz.prog) : ((zeroT P 148 = some (((.int .i64 0) :: (.nils :: (.nils :: ((.int .i64 0) :: [])))))) ∧ (fldT P 148 1 = some ((1, (false, 1))))) ∧ ((tyT P 33 = some ((false, 1))) ∧ ((fldT P 148 2 = some ((2, (false, 1)))) ∧ (tyT P 148 = some ((true, 4))))) := by subst hP; refine ⟨⟨?_, ?_⟩, ⟨?_, ⟨?_, ?_⟩⟩⟩ <;> kernel_rfl
theorem vmCopyI {P : Program} [Known P] (hP : P = Tryz.prog) (s : VSt) (h1 : s.2.1.length ≤ 1048576) (h2 : s.2.2.1.length ≤ 1048576) : Fun P 308 [.agg (stS s)] (.agg (stO s)) := by
  refine fun_of (fn := Tryz.f308) (hP ▸ Tryz.func308) (by kernel_rfl) (by kernel_rfl) (by kernel_rfl) (by kernel_rfl) ?_
  have hT := TY_vmCopyI hP
  have e1 := vmNumbersI hP s.2.1 h1
  have e2 := vmNumbersI hP s.2.2.1 h2
  clear hP
  intro hl
  clear hl
  simp only [stS, stO, Tryz.f308, hT, eA, Nat.beq, List.toArray, reduceAdd, reduceLT, reduceLeDiff, reduceToNat]
  refine Fun.plain (e1) rfl rfl rfl rfl ?_; simp only [hT, eN, ↓If_lit, Int.reduceLT, Int.reduceLE, eA, Nat.beq, List.toArray, reduceAdd, reduceLT, reduceLeDiff, reduceToNat]; (try unfold lim); repeat first | ((with_reducible refine And.intro ?_ ?_); (first | omega | exact ⟨by omega, by omega⟩ | rfl)) | intro _
  refine Fun.plain (e2) rfl rfl rfl rfl ?_; simp only [hT, eN, ↓If_lit, Int.reduceLT, Int.reduceLE, eA, Nat.beq, List.toArray, reduceAdd, reduceLT, reduceLeDiff, reduceToNat]; (try unfold lim); repeat first | ((with_reducible refine And.intro ?_ ?_); (first | omega | exact ⟨by omega, by omega⟩ | rfl)) | intro _
  try rfl
theorem TY_celCopyI {P : Program} (hP : P = Tryz.prog) : (((P.follows .mixedOrders = true) ∧ (zeroT P 151 = some (((.int .i64 0) :: (.nils :: (.nils :: ((.int .i64 0) :: (.nils :: [])))))))) ∧ ((fldT P 151 0 = some ((0, (true, 4)))) ∧ ((tyT P 148 = some ((true, 4))) ∧ (fldT P 151 1 = some ((4, (false, 1))))))) ∧ (((tyT P 149 = some ((false, 1))) ∧ (bldT P 151 = true)) ∧ ((plT P 151 0 = some ((0, 4))) ∧ ((plT P 151 1 = some ((4, 1))) ∧ (tyT P 151 = some ((true, 5)))))) := by subst hP; refine ⟨⟨⟨?_, ?_⟩, ⟨?_, ⟨?_, ?_⟩⟩⟩, ⟨⟨?_, ?_⟩, ⟨?_, ⟨?_, ?_⟩⟩⟩⟩ <;> kernel_rfl
theorem celCopyI {P : Program} [Known P] (hP : P = Tryz.prog) (c : VCel) (h1 : c.1.2.1.length ≤ 1048576) (h2 : c.1.2.2.1.length ≤ 1048576) : Fun P 266 [.agg (celS c)] (.agg (celO c)) := by
  refine fun_of (fn := Tryz.f266) (hP ▸ Tryz.func266) (by kernel_rfl) (by kernel_rfl) (by kernel_rfl) (by kernel_rfl) ?_
  have hT := TY_celCopyI hP
  have hm : P.follows .mixedOrders = true := by subst hP; kernel_rfl
  have e1 := vmCopyI hP c.1 h1 h2
  have e2 := bytCopyI hP c.2.1
  clear hP
  intro hl
  clear hl
  simp only [stS, stO] at e1
  simp only [celS, celO, Tryz.f266, hT, eA, Nat.beq, List.toArray, reduceAdd, reduceLT, reduceLeDiff, reduceToNat]
  refine wpc_pre (Le.frz 0 _ (Nat.zero_le _) rfl) ?_
  simp only [frzE, purE, pur, blt01, geth, remh, Nat.beq, cond_true, cond_false, List.length_cons, List.length_nil, Nat.zero_add, List.getD_cons_zero, List.map_cons, List.map_nil, List.drop_zero, Int.cast_ofNat_Int, List.map_cons, List.map_nil, pur, geth, Nat.beq, cond_true, cond_false, rdR_byt, rdL, AV.rd, AV.nbV, AV.nb]
  refine wpc_draw (.take 0 (.take 1 (.take 3 (.take 4 (.alt 2 (.alt 5 (.take 6 (.alt 7 .done .stop)) .stop) .stop))))) hm (by kernel_rfl) ?_
  simp only [hT, ↓If_lit, eT, ↓If_lit, PCall, reduceSub, reduceCtorEq, eA, Nat.beq, List.toArray, reduceAdd, reduceLT, reduceLeDiff, reduceToNat]
  repeat' first
    | (with_reducible refine And.intro ?_ ?_)
    | (refine Fun.plain (e1) rfl rfl rfl rfl ?_; simp only [hT, Int.toNat_natCast, ↓If_lit, eT, ↓If_lit, PCall, reduceSub, reduceCtorEq, eA, Nat.beq, List.toArray, reduceAdd, reduceLT, reduceLeDiff, reduceToNat])
    | (refine Fun.plain (e2) rfl rfl rfl rfl ?_; simp only [hT, Int.toNat_natCast, ↓If_lit, eT, ↓If_lit, PCall, reduceSub, reduceCtorEq, eA, Nat.beq, List.toArray, reduceAdd, reduceLT, reduceLeDiff, reduceToNat])
    | rfl
    | (intro _)
theorem TY_celCellsI {P : Program} (hP : P = Tryz.prog) : ((lkT P 29 = 1) ∧ (elT P 29 = some ((true, (5, 88))))) ∧ ((tyT P 151 = some ((true, 5))) ∧ ((zeroT P 151 = some (((.int .i64 0) :: (.nils :: (.nils :: ((.int .i64 0) :: (.nils :: []))))))) ∧ (mkT P 29 = some ((5, (88, ((.int .i64 0) :: (.nils :: (.nils :: ((.int .i64 0) :: (.nils :: []))))))))))) := by subst hP; refine ⟨⟨?_, ?_⟩, ⟨?_, ⟨?_, ?_⟩⟩⟩ <;> kernel_rfl
theorem celCellsI {P : Program} [Known P] (hP : P = Tryz.prog) (l : List VCel) (hm : l.length ≤ 1048576) (hn0 : ∀ i, i < l.length → (l.getD i cel0).1.2.1.length ≤ 1048576) (hn1 : ∀ i, i < l.length → (l.getD i cel0).1.2.2.1.length ≤ 1048576) : Fun P 189 [.sl 5 (l.map celS) celZ] (.own 5 (l.map celO) celZ) := by
  refine fun_of (fn := Tryz.f189) (hP ▸ Tryz.func189) (by kernel_rfl) (by kernel_rfl) (by kernel_rfl) (by kernel_rfl) ?_
  have hT := TY_celCellsI hP
  have ec := fun c h1 h2 => celCopyI hP c h1 h2
  clear hP
  intro hl
  have hl0 : l.length ≤ lim := by simpa only [limL, limA, List.length_map, and_true] using hl
  clear hl
  simp only [Tryz.f189, hT, eA, Nat.beq, List.toArray, reduceAdd, reduceLT, reduceLeDiff, reduceToNat]
  have hl1 : l.length ≤ 140737488355328 := hl0
  repeat' first | (with_reducible refine And.intro ?_ ?_) | omega | intro _
  refine wpc_loop {k : Nat // k ≤ l.length} (fun k => ⟨[(3, .os 0), (6, .sl 5 (l.map celS) celZ), (7, .int .i64 l.length), (8, .int .i64 k.1)], [(0, ⟨5, (l.take k.1).map celO, celZ, false⟩)], 1⟩) (fun k => l.length - k.1) ⟨0, Nat.zero_le _⟩ (Le.of [(0, none)] (Nat.zero_le _) ?_ ?_ ?_) ?_
  · simp only [eL, eH, eG, leO, Nat.beq, reduceLT]
  · simp only [eL, eH, eG, leO, Nat.beq, reduceLT]; first | done | rfl | simp | omega
  · simp only [eL, eH, eG, leO, Nat.beq, reduceLT]; try rfl
  · rintro ⟨k, hk⟩
    by_cases hlt : k < l.length
    · have hf : decide ((k : Int) < l.length) = true := decide_eq_true (by omega)
      have hr1 : ∀ d, (l.map celS).getD k d = celS (l.getD k cel0) := fun d => getIn celS l k d cel0 hlt
      have hLk : (l.take k).length = k := by rw [List.length_take]; omega
      have ex := ec (l.getD k cel0) (hn0 k hlt) (hn1 k hlt)
      have hap : (l.take k).map celO ++ [celO (l.getD k cel0)] = (l.take (k + 1)).map celO := by
        rw [List.take_add_one, List.getElem?_eq_getElem hlt, List.map_append, List.getD_eq_getElem?_getD, List.getElem?_eq_getElem hlt]; rfl
      simp only [celS, celO] at ex hr1 hap
      simp only [hT, hf, hr1, Int.toNat_natCast, ↓If_lit, eA, Nat.beq, List.toArray, reduceAdd, reduceLT, reduceLeDiff, reduceToNat]
      repeat' first | (with_reducible refine And.intro ?_ ?_) | omega | intro _
      refine Fun.plain ex rfl rfl rfl rfl ?_
      simp only [hT, hLk, hap, List.length_map, ↓If_lit, eA, Nat.beq, List.toArray, reduceAdd, reduceLT, reduceLeDiff, reduceToNat]
      repeat' first | (with_reducible refine And.intro ?_ ?_) | omega | intro _
      all_goals first | (show In64 _; exact ⟨by omega, by omega⟩) | (refine ⟨⟨k + 1, hlt⟩, by simp only; omega, Le.of [(0, some 6)] (Nat.zero_le _) ?_ ?_ ?_⟩ <;> first | (simp only [eL, eH, eG, leO, Nat.beq, reduceLT]; done) | (simp only [eL, eH, eG, leO, Nat.beq, reduceLT]; first | done | rfl | omega | simp)) | skip
    · obtain rfl : k = l.length := by omega
      have hf : decide ((l.length : Int) < l.length) = false := decide_eq_false (by omega)
      simp only [hT, hf, List.take_length, ↓If_lit, eA, Nat.beq, List.toArray, reduceAdd, reduceLT, reduceLeDiff, reduceToNat]
      repeat' first | (with_reducible refine And.intro ?_ ?_) | omega | intro _
theorem TY_messagesI {P : Program} (hP : P = Tryz.prog) : ((lkT P 79 = 1) ∧ (mkT P 79 = some ((1, (24, (.nils :: [])))))) ∧ ((elT P 79 = some ((false, (1, 24)))) ∧ (tyT P 149 = some ((false, 1)))) := by subst hP; refine ⟨⟨?_, ?_⟩, ⟨?_, ?_⟩⟩ <;> kernel_rfl
theorem messagesI {P : Program} [Known P] (hP : P = Tryz.prog) (l : List (List UInt8)) (hm : l.length ≤ 1048576) : Fun P 310 [.sl 1 (l.map msgS) msgZ] (.own 1 (l.map msgO) msgZ) := by
  refine fun_of (fn := Tryz.f310) (hP ▸ Tryz.func310) (by kernel_rfl) (by kernel_rfl) (by kernel_rfl) (by kernel_rfl) ?_
  have hT := TY_messagesI hP
  have bc := fun m => bytCopyI hP m
  clear hP
  intro hl
  have hl0 : l.length ≤ lim := by simpa only [limL, limA, List.length_map, and_true] using hl
  clear hl
  simp only [Tryz.f310, hT, eA, Nat.beq, List.toArray, reduceAdd, reduceLT, reduceLeDiff, reduceToNat]
  have hl1 : l.length ≤ 140737488355328 := hl0
  repeat intro _
  refine If.mk (fun q => ?_) (fun q => ?_)
  · have hz : l = [] := by simp at q; simpa using q
    subst hz
    rfl
  · repeat' first | (with_reducible refine And.intro ?_ ?_) | omega | intro _
    refine wpc_loop {k : Nat // k ≤ l.length} (fun k => ⟨[(3, .os 0), (12, .sl 1 (l.map msgS) msgZ), (13, .int .i64 l.length), (14, .int .i64 k.1)], [(0, ⟨1, (l.take k.1).map msgO ++ List.replicate (l.length - k.1) msgZ, msgZ, false⟩)], 1⟩) (fun k => l.length - k.1) ⟨0, Nat.zero_le _⟩ (Le.of [] (Nat.zero_le _) ?_ ?_ ?_) ?_
    · simp only [eL, eH, eG, leO, Nat.beq, reduceLT]
    · simp only [eL, eH, eG, leO, Nat.beq, reduceLT]; first | done | rfl | simp | omega
    · simp only [eL, eH, eG, leO, Nat.beq, reduceLT]; try rfl
    · rintro ⟨k, hk⟩
      have hL : (List.map msgO (List.take k l) ++ List.replicate (l.length - k) msgZ).length = l.length := by simp only [List.length_append, List.length_map, List.length_take, List.length_replicate]; omega
      by_cases hlt : k < l.length
      · have hf : decide ((k : Int) < l.length) = true := decide_eq_true (by omega)
        have hr1 : ∀ d, (l.map msgS).getD k d = msgS (l.getD k []) := fun d => getIn msgS l k d [] hlt
        have fs := fillSet msgO l msgZ k [] hlt
        have ex := bc (l.getD k [])
        simp only [msgS] at hr1
        simp only [msgO] at fs
        simp only [hT, hf, hr1, Int.toNat_natCast, ↓If_lit, eA, Nat.beq, List.toArray, reduceAdd, reduceLT, reduceLeDiff, reduceToNat]
        repeat' first | (with_reducible refine And.intro ?_ ?_) | omega | intro _
        refine Fun.plain ex rfl rfl rfl rfl ?_
        simp only [hT, hL, ↓If_lit, eA, Nat.beq, List.toArray, reduceAdd, reduceLT, reduceLeDiff, reduceToNat]
        repeat' first | (with_reducible refine And.intro ?_ ?_) | omega | intro _
        all_goals first | (show In64 _; exact ⟨by omega, by omega⟩) | (refine ⟨⟨k + 1, hlt⟩, by simp only; omega, Le.of [] (Nat.zero_le _) ?_ ?_ ?_⟩ <;> first | (simp only [eL, eH, eG, leO, Nat.beq, reduceLT]; done) | (simp only [fs, eL, eH, eG, leO, Nat.beq, reduceLT]; first | done | rfl | omega | simp)) | skip
      · obtain rfl : k = l.length := by omega
        have hf : decide ((l.length : Int) < l.length) = false := decide_eq_false (by omega)
        simp only [hT, hf, List.take_length, ↓If_lit, eA, Nat.beq, List.toArray, reduceAdd, reduceLT, reduceLeDiff, reduceToNat]
        repeat' first | (with_reducible refine And.intro ?_ ?_) | omega | intro _
        all_goals first | done | (simp; done)
theorem TY_boxCopyI {P : Program} (hP : P = Tryz.prog) : (((P.follows .mixedOrders = true) ∧ (zeroT P 163 = some (((.int .i64 0) :: (.nils :: []))))) ∧ ((fldT P 163 0 = some ((0, (false, 1)))) ∧ ((tyT P 3 = some ((false, 1))) ∧ (fldT P 163 1 = some ((1, (false, 1))))))) ∧ (((tyT P 79 = some ((false, 1))) ∧ (bldT P 163 = true)) ∧ ((plT P 163 0 = some ((0, 1))) ∧ ((plT P 163 1 = some ((1, 1))) ∧ (tyT P 163 = some ((true, 2)))))) := by subst hP; refine ⟨⟨⟨?_, ?_⟩, ⟨?_, ⟨?_, ?_⟩⟩⟩, ⟨⟨?_, ?_⟩, ⟨?_, ⟨?_, ?_⟩⟩⟩⟩ <;> kernel_rfl
theorem boxCopyI {P : Program} [Known P] (hP : P = Tryz.prog) (b : VBox) (h1 : b.2.1.length ≤ 1048576) : Fun P 267 [.agg (boxS b)] (.agg (boxO b)) := by
  refine fun_of (fn := Tryz.f267) (hP ▸ Tryz.func267) (by kernel_rfl) (by kernel_rfl) (by kernel_rfl) (by kernel_rfl) ?_
  have hT := TY_boxCopyI hP
  have hm : P.follows .mixedOrders = true := by subst hP; kernel_rfl
  have e1 := messagesI hP b.2.1 h1
  clear hP
  intro hl
  clear hl
  simp only [boxS, boxO, Tryz.f267, hT, eA, Nat.beq, List.toArray, reduceAdd, reduceLT, reduceLeDiff, reduceToNat]
  refine wpc_pre (Le.frz 0 _ (Nat.zero_le _) rfl) ?_
  simp only [frzE, purE, pur, blt01, geth, remh, Nat.beq, cond_true, cond_false, List.length_cons, List.length_nil, Nat.zero_add, List.getD_cons_zero, List.map_cons, List.map_nil, List.drop_zero, Int.cast_ofNat_Int, List.map_cons, List.map_nil, pur, geth, Nat.beq, cond_true, cond_false, rdR_byt, rdL, AV.rd, AV.nbV, AV.nb]
  refine wpc_draw (.take 0 (.take 1 (.take 2 (.take 3 (.alt 4 (.take 5 (.alt 6 .done .stop)) .stop))))) hm (by kernel_rfl) ?_
  simp only [hT, ↓If_lit, eT, ↓If_lit, PCall, reduceSub, reduceCtorEq, eA, Nat.beq, List.toArray, reduceAdd, reduceLT, reduceLeDiff, reduceToNat]
  repeat' first
    | (with_reducible refine And.intro ?_ ?_)
    | (refine Fun.plain (e1) rfl rfl rfl rfl ?_; simp only [hT, Int.toNat_natCast, ↓If_lit, eT, ↓If_lit, PCall, reduceSub, reduceCtorEq, eA, Nat.beq, List.toArray, reduceAdd, reduceLT, reduceLeDiff, reduceToNat])
    | rfl
    | (intro _)
theorem TY_nodBoxesI {P : Program} (hP : P = Tryz.prog) : ((lkT P 30 = 1) ∧ (elT P 30 = some ((true, (2, 32))))) ∧ ((tyT P 163 = some ((true, 2))) ∧ ((zeroT P 163 = some (((.int .i64 0) :: (.nils :: [])))) ∧ (mkT P 30 = some ((2, (32, ((.int .i64 0) :: (.nils :: [])))))))) := by subst hP; refine ⟨⟨?_, ?_⟩, ⟨?_, ⟨?_, ?_⟩⟩⟩ <;> kernel_rfl
theorem nodBoxesI {P : Program} [Known P] (hP : P = Tryz.prog) (l : List VBox) (hm : l.length ≤ 1048576) (hn0 : ∀ i, i < l.length → (l.getD i box0).2.1.length ≤ 1048576) : Fun P 190 [.sl 2 (l.map boxS) boxZ] (.own 2 (l.map boxO) boxZ) := by
  refine fun_of (fn := Tryz.f190) (hP ▸ Tryz.func190) (by kernel_rfl) (by kernel_rfl) (by kernel_rfl) (by kernel_rfl) ?_
  have hT := TY_nodBoxesI hP
  have ec := fun c h1 => boxCopyI hP c h1
  clear hP
  intro hl
  have hl0 : l.length ≤ lim := by simpa only [limL, limA, List.length_map, and_true] using hl
  clear hl
  simp only [Tryz.f190, hT, eA, Nat.beq, List.toArray, reduceAdd, reduceLT, reduceLeDiff, reduceToNat]
  have hl1 : l.length ≤ 140737488355328 := hl0
  repeat' first | (with_reducible refine And.intro ?_ ?_) | omega | intro _
  refine wpc_loop {k : Nat // k ≤ l.length} (fun k => ⟨[(3, .os 0), (6, .sl 2 (l.map boxS) boxZ), (7, .int .i64 l.length), (8, .int .i64 k.1)], [(0, ⟨2, (l.take k.1).map boxO, boxZ, false⟩)], 1⟩) (fun k => l.length - k.1) ⟨0, Nat.zero_le _⟩ (Le.of [(0, none)] (Nat.zero_le _) ?_ ?_ ?_) ?_
  · simp only [eL, eH, eG, leO, Nat.beq, reduceLT]
  · simp only [eL, eH, eG, leO, Nat.beq, reduceLT]; first | done | rfl | simp | omega
  · simp only [eL, eH, eG, leO, Nat.beq, reduceLT]; try rfl
  · rintro ⟨k, hk⟩
    by_cases hlt : k < l.length
    · have hf : decide ((k : Int) < l.length) = true := decide_eq_true (by omega)
      have hr1 : ∀ d, (l.map boxS).getD k d = boxS (l.getD k box0) := fun d => getIn boxS l k d box0 hlt
      have hLk : (l.take k).length = k := by rw [List.length_take]; omega
      have ex := ec (l.getD k box0) (hn0 k hlt)
      have hap : (l.take k).map boxO ++ [boxO (l.getD k box0)] = (l.take (k + 1)).map boxO := by
        rw [List.take_add_one, List.getElem?_eq_getElem hlt, List.map_append, List.getD_eq_getElem?_getD, List.getElem?_eq_getElem hlt]; rfl
      simp only [boxS, boxO] at ex hr1 hap
      simp only [hT, hf, hr1, Int.toNat_natCast, ↓If_lit, eA, Nat.beq, List.toArray, reduceAdd, reduceLT, reduceLeDiff, reduceToNat]
      repeat' first | (with_reducible refine And.intro ?_ ?_) | omega | intro _
      refine Fun.plain ex rfl rfl rfl rfl ?_
      simp only [hT, hLk, hap, List.length_map, ↓If_lit, eA, Nat.beq, List.toArray, reduceAdd, reduceLT, reduceLeDiff, reduceToNat]
      repeat' first | (with_reducible refine And.intro ?_ ?_) | omega | intro _
      all_goals first | (show In64 _; exact ⟨by omega, by omega⟩) | (refine ⟨⟨k + 1, hlt⟩, by simp only; omega, Le.of [(0, some 4)] (Nat.zero_le _) ?_ ?_ ?_⟩ <;> first | (simp only [eL, eH, eG, leO, Nat.beq, reduceLT]; done) | (simp only [eL, eH, eG, leO, Nat.beq, reduceLT]; first | done | rfl | omega | simp)) | skip
    · obtain rfl : k = l.length := by omega
      have hf : decide ((l.length : Int) < l.length) = false := decide_eq_false (by omega)
      simp only [hT, hf, List.take_length, ↓If_lit, eA, Nat.beq, List.toArray, reduceAdd, reduceLT, reduceLeDiff, reduceToNat]
      repeat' first | (with_reducible refine And.intro ?_ ?_) | omega | intro _
end Go.Proofs.YtjlmfcddbcoimaaGreat.C
