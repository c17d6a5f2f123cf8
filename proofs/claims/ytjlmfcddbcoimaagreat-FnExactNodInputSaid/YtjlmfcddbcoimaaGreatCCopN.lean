/- Copies of nodes, by both texts. -/
import Derived.Test.YtjlmfcddbcoimaaGreatCCopA
import Derived.Test.YtjlmfcddbcoimaaGreatCCopS
set_option maxRecDepth 100000
set_option maxHeartbeats 4000000
set_option linter.unusedSimpArgs false
set_option linter.unusedVariables false
namespace Go.Proofs.YtjlmfcddbcoimaaGreat.C
open Go Go.Av Go.Proofs
open Nat (reduceAdd reduceLT reduceLeDiff reduceSub)
open Int (reduceToNat)
theorem TY_nodCopyI {P : Program} (hP : P = Tryz.prog) : ((((P.follows .mixedOrders = true) ∧ ((zeroT P 37 = some (((.bool false) :: ((.int .i64 0) :: ((.int .i64 0) :: (.nils :: (.nils :: (.nils :: (.nils :: (.nils :: (.nils :: (.nils :: [])))))))))))) ∧ (fldT P 37 3 = some ((3, (false, 1)))))) ∧ ((tyT P 29 = some ((false, 1))) ∧ ((fldT P 37 4 = some ((4, (false, 1)))) ∧ (tyT P 30 = some ((false, 1)))))) ∧ (((fldT P 37 5 = some ((5, (false, 1)))) ∧ ((fldT P 37 6 = some ((6, (false, 1)))) ∧ (tyT P 31 = some ((false, 1))))) ∧ ((mkT P 31 = some ((4, (32, ((.int .i64 0) :: ((.int .i64 0) :: ((.int .i64 0) :: ((.int .i64 0) :: [])))))))) ∧ ((lkT P 31 = 1) ∧ (fldT P 37 7 = some ((7, (false, 1)))))))) ∧ ((((tyT P 32 = some ((false, 1))) ∧ ((mkT P 32 = some ((3, (24, ((.int .i64 0) :: ((.int .i64 0) :: ((.int .i64 0) :: []))))))) ∧ (lkT P 32 = 1))) ∧ ((fldT P 37 8 = some ((8, (true, 2)))) ∧ ((fldT P 35 0 = some ((0, (false, 1)))) ∧ (tyT P 33 = some ((false, 1)))))) ∧ (((fldT P 35 1 = some ((1, (false, 1)))) ∧ ((zeroT P 35 = some ((.nils :: (.nils :: [])))) ∧ (bldT P 35 = true))) ∧ (((plT P 35 0 = some ((0, 1))) ∧ (plT P 35 1 = some ((1, 1)))) ∧ ((tyT P 35 = some ((true, 2))) ∧ (tyT P 37 = some ((true, 10))))))) := by subst hP; refine ⟨⟨⟨⟨?_, ⟨?_, ?_⟩⟩, ⟨?_, ⟨?_, ?_⟩⟩⟩, ⟨⟨?_, ⟨?_, ?_⟩⟩, ⟨?_, ⟨?_, ?_⟩⟩⟩⟩, ⟨⟨⟨?_, ⟨?_, ?_⟩⟩, ⟨?_, ⟨?_, ?_⟩⟩⟩, ⟨⟨?_, ⟨?_, ?_⟩⟩, ⟨⟨?_, ?_⟩, ⟨?_, ?_⟩⟩⟩⟩⟩ <;> kernel_rfl
theorem nodCopyI {P : Program} [Known P] (hP : P = Tryz.prog) (n : VNod) (hn : SzN n) : Fun P 100 [.agg (nodS n)] (.agg (nodO n)) := by
  refine fun_of (fn := Tryz.f100) (hP ▸ Tryz.func100) (by kernel_rfl) (by kernel_rfl) (by kernel_rfl) (by kernel_rfl) ?_
  have hT := TY_nodCopyI hP
  have hm : P.follows .mixedOrders = true := by subst hP; kernel_rfl
  have e1 := celCellsI hP n.cells hn.c hn.c1 hn.c2
  have e2 := nodBoxesI hP n.out hn.o hn.o1
  have e3 := nodBoxesI hP n.inn hn.i hn.i1
  have e4 := vmNumbersI hP n.heard.1 hn.b
  have e5 := vmNumbersI hP n.heard.2.1 hn.s
  clear hP
  intro hl
  clear hl
  simp only [nodS, nodO, Tryz.f100, hT, eA, Nat.beq, List.toArray, reduceAdd, reduceLT, reduceLeDiff, reduceToNat]
  have hu := hn.u
  have hv := hn.v
  refine Fun.plain e1 rfl rfl rfl rfl ?_
  simp only [hT, ↓If_lit, eA, Nat.beq, List.toArray, reduceAdd, reduceLT, reduceLeDiff, reduceToNat]
  repeat' first | (with_reducible refine And.intro ?_ ?_) | omega | intro _
  refine Fun.plain e2 rfl rfl rfl rfl ?_
  simp only [hT, ↓If_lit, eA, Nat.beq, List.toArray, reduceAdd, reduceLT, reduceLeDiff, reduceToNat]
  repeat' first | (with_reducible refine And.intro ?_ ?_) | omega | intro _
  refine Fun.plain e3 rfl rfl rfl rfl ?_
  simp only [hT, List.length_map, ↓If_lit, eA, Nat.beq, List.toArray, reduceAdd, reduceLT, reduceLeDiff, reduceToNat]
  repeat' first | (with_reducible refine And.intro ?_ ?_) | omega | intro _
  try simp only [hT, List.length_map, ↓If_lit, eA, Nat.beq, List.toArray, reduceAdd, reduceLT, reduceLeDiff, reduceToNat]
  repeat' first | (with_reducible refine And.intro ?_ ?_) | omega | intro _
  refine wpc_draw (.take 0 (.take 1 (.take 4 (.take 5 (.alt 2 (.alt 3 (.alt 6 (.alt 7 (.take 8 (.take 9 (.alt 10 .done .stop))) .stop) .stop) (.alt 6 (.alt 3 (.alt 7 (.take 8 (.take 9 (.alt 10 .done .stop))) .stop) .stop) .stop)) (.alt 6 (.alt 2 (.alt 3 (.alt 7 (.take 8 (.take 9 (.alt 10 .done .stop))) .stop) .stop) .stop) .stop)))))) hm (by kernel_rfl) ?_
  simp only [hT, ↓If_lit, eT, ↓If_lit, PCall, reduceSub, reduceCtorEq, eA, Nat.beq, List.toArray, reduceAdd, reduceLT, reduceLeDiff, reduceToNat]
  repeat' first
    | (with_reducible refine And.intro ?_ ?_)
    | (refine Fun.plain e4 rfl rfl rfl rfl ?_; simp only [hT, ↓If_lit, eT, ↓If_lit, PCall, reduceSub, reduceCtorEq, eA, Nat.beq, List.toArray, reduceAdd, reduceLT, reduceLeDiff, reduceToNat])
    | (refine Fun.plain e5 rfl rfl rfl rfl ?_; simp only [hT, ↓If_lit, eT, ↓If_lit, PCall, reduceSub, reduceCtorEq, eA, Nat.beq, List.toArray, reduceAdd, reduceLT, reduceLeDiff, reduceToNat])
    | rfl
    | trivial
    | (intro _)
abbrev nodZ0 : List AV := [.bool false, .int .i64 0, .int .i64 0, .nils, .nils, .nils, .nils, .nils, .nils, .nils]
theorem TY_nodCopyS {P : Program} (hP : P = Tryz.prog) : (((((P.follows .mixedOrders = true) ∧ (zeroT P 37 = some (((.bool false) :: ((.int .i64 0) :: ((.int .i64 0) :: (.nils :: (.nils :: (.nils :: (.nils :: (.nils :: (.nils :: (.nils :: []))))))))))))) ∧ ((fldT P 37 0 = some ((0, (false, 1)))) ∧ (tyT P 4 = some ((false, 1))))) ∧ (((fldT P 37 1 = some ((1, (false, 1)))) ∧ (tyT P 3 = some ((false, 1)))) ∧ ((fldT P 37 2 = some ((2, (false, 1)))) ∧ ((mkT P 31 = some ((4, (32, ((.int .i64 0) :: ((.int .i64 0) :: ((.int .i64 0) :: ((.int .i64 0) :: [])))))))) ∧ (fldT P 37 6 = some ((6, (false, 1)))))))) ∧ ((((tyT P 31 = some ((false, 1))) ∧ (lkT P 31 = 1)) ∧ ((mkT P 32 = some ((3, (24, ((.int .i64 0) :: ((.int .i64 0) :: ((.int .i64 0) :: []))))))) ∧ ((fldT P 37 7 = some ((7, (false, 1)))) ∧ (tyT P 32 = some ((false, 1)))))) ∧ (((lkT P 32 = 1) ∧ (fldT P 37 8 = some ((8, (true, 2))))) ∧ ((tyT P 35 = some ((true, 2))) ∧ ((bldT P 37 = true) ∧ (plT P 37 0 = some ((0, 1)))))))) ∧ (((((plT P 37 1 = some ((1, 1))) ∧ (plT P 37 2 = some ((2, 1)))) ∧ ((plT P 37 6 = some ((6, 1))) ∧ (plT P 37 7 = some ((7, 1))))) ∧ (((plT P 37 8 = some ((8, 2))) ∧ (tyT P 37 = some ((true, 10)))) ∧ ((fldT P 37 3 = some ((3, (false, 1)))) ∧ ((tyT P 29 = some ((false, 1))) ∧ (lkT P 29 = 1))))) ∧ ((((elT P 29 = some ((true, (5, 88)))) ∧ (tyT P 151 = some ((true, 5)))) ∧ ((mkT P 29 = some ((5, (88, ((.int .i64 0) :: (.nils :: (.nils :: ((.int .i64 0) :: (.nils :: []))))))))) ∧ ((fldT P 37 4 = some ((4, (false, 1)))) ∧ (tyT P 30 = some ((false, 1)))))) ∧ (((lkT P 30 = 1) ∧ (elT P 30 = some ((true, (2, 32))))) ∧ ((tyT P 163 = some ((true, 2))) ∧ ((mkT P 30 = some ((2, (32, ((.int .i64 0) :: (.nils :: [])))))) ∧ (fldT P 37 5 = some ((5, (false, 1))))))))) := by subst hP; refine ⟨⟨⟨⟨⟨?_, ?_⟩, ⟨?_, ?_⟩⟩, ⟨⟨?_, ?_⟩, ⟨?_, ⟨?_, ?_⟩⟩⟩⟩, ⟨⟨⟨?_, ?_⟩, ⟨?_, ⟨?_, ?_⟩⟩⟩, ⟨⟨?_, ?_⟩, ⟨?_, ⟨?_, ?_⟩⟩⟩⟩⟩, ⟨⟨⟨⟨?_, ?_⟩, ⟨?_, ?_⟩⟩, ⟨⟨?_, ?_⟩, ⟨?_, ⟨?_, ?_⟩⟩⟩⟩, ⟨⟨⟨?_, ?_⟩, ⟨?_, ⟨?_, ?_⟩⟩⟩, ⟨⟨?_, ?_⟩, ⟨?_, ⟨?_, ?_⟩⟩⟩⟩⟩⟩ <;> kernel_rfl
theorem nodCopyS {P : Program} [Known P] (hP : P = Tryz.prog) (n : VNod) (hn : SzN n) : Fun P 188 [.agg (nodS n)] (.agg (nodO n)) := by
  refine fun_of (fn := Tryz.f188) (hP ▸ Tryz.func188) (by kernel_rfl) (by kernel_rfl) (by kernel_rfl) (by kernel_rfl) ?_
  have hT := TY_nodCopyS hP
  have hm : P.follows .mixedOrders = true := by subst hP; kernel_rfl
  have ec := fun c h1 h2 => celCopyS hP c h1 h2
  have eb := fun c h1 => boxCopyS hP c h1
  have eh := hrdCopyS hP n.heard hn.b hn.s
  clear hP
  intro hl
  clear hl
  simp only [hrdS, hrdO] at eh
  simp only [nodS, nodO, Tryz.f188, hT, eA, Nat.beq, List.toArray, reduceAdd, reduceLT, reduceLeDiff, reduceToNat]
  have hu := hn.u
  have hv := hn.v
  have hcl := hn.c
  have hol := hn.o
  have hil := hn.i
  have hbu : n.outs.length ≤ 140737488355328 := by omega
  have hbv : n.inns.length ≤ 140737488355328 := by omega
  have hbb : n.heard.1.length ≤ 140737488355328 := by have := hn.b; omega
  refine wpc_pre (Le.frz 0 _ (Nat.zero_le _) rfl) ?_
  simp only [frzE, purE, pur, blt01, geth, remh, Nat.beq, cond_true, cond_false, List.length_cons, List.length_nil, Nat.zero_add, List.getD_cons_zero, List.map_cons, List.map_nil, List.drop_zero, Int.cast_ofNat_Int, List.map_cons, List.map_nil, pur, geth, Nat.beq, cond_true, cond_false, rdR_byt, rdL, AV.rd, AV.nbV, AV.nb]
  refine wpc_cut ⟨[(1, .rp (nodS n)), (2, .cp 1 0 0), (3, .cp 2 0 0)], [(2, ⟨10, [[.bool n.up, .int .i64 n.boot, .int .i64 n.hello, .nils, .nils, .nils, .own 4 (n.outs.map outE) outZ, .own 3 (n.inns.map innE) innZ, intsO n.heard.1, intsO n.heard.2.1]], [], true⟩), (1, ⟨10, [nodZ0], [], true⟩)], 3⟩ (.take 0 (.take 1 (.take 2 (.take 3 (.take 4 (.take 5 (.take 7 (.take 8 (.take 11 (.take 12 (.take 14 (.take 15 (.alt 6 (.alt 9 (.alt 10 (.alt 13 (.alt 16 (.take 17 (.alt 18 (.alt 19 .done .stop) .stop)) (.alt 18 (.alt 16 (.take 17 (.alt 19 .done .stop)) .stop) .stop)) (.alt 18 (.alt 13 (.alt 16 (.take 17 (.alt 19 .done .stop)) .stop) .stop) .stop)) (.alt 18 (.alt 10 (.alt 13 (.alt 16 (.take 17 (.alt 19 .done .stop)) .stop) .stop) .stop) .stop)) (.alt 10 (.alt 9 (.alt 13 (.alt 16 (.take 17 (.alt 18 (.alt 19 .done .stop) .stop)) (.alt 18 (.alt 16 (.take 17 (.alt 19 .done .stop)) .stop) .stop)) (.alt 18 (.alt 13 (.alt 16 (.take 17 (.alt 19 .done .stop)) .stop) .stop) .stop)) (.alt 18 (.alt 9 (.alt 13 (.alt 16 (.take 17 (.alt 19 .done .stop)) .stop) .stop) .stop) .stop)) (.alt 18 (.alt 9 (.alt 10 (.alt 13 (.alt 16 (.take 17 (.alt 19 .done .stop)) .stop) .stop) .stop) (.alt 10 (.alt 9 (.alt 13 (.alt 16 (.take 17 (.alt 19 .done .stop)) .stop) .stop) .stop) .stop)) .stop))) (.alt 10 (.alt 6 (.alt 9 (.alt 13 (.alt 16 (.take 17 (.alt 18 (.alt 19 .done .stop) .stop)) (.alt 18 (.alt 16 (.take 17 (.alt 19 .done .stop)) .stop) .stop)) (.alt 18 (.alt 13 (.alt 16 (.take 17 (.alt 19 .done .stop)) .stop) .stop) .stop)) (.alt 18 (.alt 9 (.alt 13 (.alt 16 (.take 17 (.alt 19 .done .stop)) .stop) .stop) .stop) .stop)) (.alt 18 (.alt 6 (.alt 9 (.alt 13 (.alt 16 (.take 17 (.alt 19 .done .stop)) .stop) .stop) .stop) .stop) .stop)) (.alt 18 (.alt 6 (.alt 9 (.alt 10 (.alt 13 (.alt 16 (.take 17 (.alt 19 .done .stop)) .stop) .stop) .stop) (.alt 10 (.alt 9 (.alt 13 (.alt 16 (.take 17 (.alt 19 .done .stop)) .stop) .stop) .stop) .stop)) (.alt 10 (.alt 6 (.alt 9 (.alt 13 (.alt 16 (.take 17 (.alt 19 .done .stop)) .stop) .stop) .stop) .stop) .stop)) .stop))))))))))))))) hm (by kernel_rfl) ?_ ?_
  · simp only [hT, List.length_map, List.length_nil, Nat.zero_add, ↓If_lit, eT, ↓If_lit, PCall, reduceSub, reduceCtorEq, eA, Nat.beq, List.toArray, reduceAdd, reduceLT, reduceLeDiff, reduceToNat]
    repeat' first
      | (with_reducible refine And.intro ?_ ?_)
      | (refine Fun.plain eh rfl rfl rfl rfl ?_; simp only [hT, List.length_map, List.length_nil, Nat.zero_add, ↓If_lit, eT, ↓If_lit, PCall, reduceSub, reduceCtorEq, eA, Nat.beq, List.toArray, reduceAdd, reduceLT, reduceLeDiff, reduceToNat])
      | omega
      | (refine Le.of [(1, some 1), (2, some 2)] (Nat.zero_le _) ?_ ?_ ?_ <;> first | (simp only [nodS, eL, eH, eG, leO, Nat.beq, reduceLT]; done) | (simp only [nodS, eL, eH, eG, leO, Nat.beq, reduceLT]; rfl))
      | (refine Le.of [(1, some 1), (2, some 3)] (Nat.zero_le _) ?_ ?_ ?_ <;> first | (simp only [nodS, eL, eH, eG, leO, Nat.beq, reduceLT]; done) | (simp only [nodS, eL, eH, eG, leO, Nat.beq, reduceLT]; rfl))
      | (refine Le.of [(1, some 1), (2, some 4)] (Nat.zero_le _) ?_ ?_ ?_ <;> first | (simp only [nodS, eL, eH, eG, leO, Nat.beq, reduceLT]; done) | (simp only [nodS, eL, eH, eG, leO, Nat.beq, reduceLT]; rfl))
      | (refine Le.of [(1, some 1), (2, some 5)] (Nat.zero_le _) ?_ ?_ ?_ <;> first | (simp only [nodS, eL, eH, eG, leO, Nat.beq, reduceLT]; done) | (simp only [nodS, eL, eH, eG, leO, Nat.beq, reduceLT]; rfl))
      | (refine Le.of [(1, some 1), (2, some 6)] (Nat.zero_le _) ?_ ?_ ?_ <;> first | (simp only [nodS, eL, eH, eG, leO, Nat.beq, reduceLT]; done) | (simp only [nodS, eL, eH, eG, leO, Nat.beq, reduceLT]; rfl))
      | (refine Le.of [(1, some 1), (2, some 8)] (Nat.zero_le _) ?_ ?_ ?_ <;> first | (simp only [nodS, eL, eH, eG, leO, Nat.beq, reduceLT]; done) | (simp only [nodS, eL, eH, eG, leO, Nat.beq, reduceLT]; rfl))
      | rfl
      | trivial
      | (intro _)
  simp only [nodS, hT, ↓If_lit, eA, Nat.beq, List.toArray, reduceAdd, reduceLT, reduceLeDiff, reduceToNat]
  refine wpc_loop {k : Nat // k ≤ n.cells.length} (fun k => ⟨[(1, .rp (nodS n)), (2, .cp 1 0 0), (3, .cp 2 0 0), (4, .int .i64 k.1)], [(2, ⟨10, [[.bool n.up, .int .i64 n.boot, .int .i64 n.hello, .own 5 ((n.cells.take k.1).map celO) celZ, .nils, .nils, .own 4 (n.outs.map outE) outZ, .own 3 (n.inns.map innE) innZ, intsO n.heard.1, intsO n.heard.2.1]], [], true⟩), (1, ⟨10, [nodZ0], [], true⟩)], 3⟩) (fun k => n.cells.length - k.1) ⟨0, Nat.zero_le _⟩ (Le.of [] (Nat.zero_le _) ?_ ?_ ?_) ?_
  · simp only [eL, eH, eG, leO, Nat.beq, reduceLT]
  · simp only [nodS, eL, eH, eG, leO, Nat.beq, reduceLT]; first | done | rfl | simp | omega
  · simp only [nodS, eL, eH, eG, leO, Nat.beq, reduceLT]; try rfl
  · rintro ⟨k, hk⟩
    by_cases hlt : k < n.cells.length
    · have hf : decide ((k : Int) < n.cells.length) = true := decide_eq_true (by omega)
      have hr1 : ∀ d, (n.cells.map celS).getD k d = celS (n.cells.getD k cel0) := fun d => getIn celS n.cells k d cel0 hlt
      have hLk : (n.cells.take k).length = k := by rw [List.length_take]; omega
      have ex := ec (n.cells.getD k cel0) (hn.c1 k hlt) (hn.c2 k hlt)
      have hap : (n.cells.take k).map celO ++ [celO (n.cells.getD k cel0)] = (n.cells.take (k + 1)).map celO := by
        rw [List.take_add_one, List.getElem?_eq_getElem hlt, List.map_append, List.getD_eq_getElem?_getD, List.getElem?_eq_getElem hlt]; rfl
      simp only [celS, celO] at ex hr1 hap
      simp only [hT, hf, nodS, Int.toNat_natCast, ↓If_lit, eA, Nat.beq, List.toArray, reduceAdd, reduceLT, reduceLeDiff, reduceToNat]
      repeat' first | (with_reducible refine And.intro ?_ ?_) | omega | intro _
      refine wpc_draw (.take 0 (.take 2 (.take 3 (.take 4 (.take 5 (.take 6 (.alt 1 (.alt 7 (.alt 8 (.alt 9 (.take 10 (.alt 11 .done .stop)) .stop) .stop) .stop) (.alt 7 (.alt 1 (.alt 8 (.alt 9 (.take 10 (.alt 11 .done .stop)) .stop) .stop) (.alt 8 (.alt 1 (.alt 9 (.take 10 (.alt 11 .done .stop)) .stop) .stop) .stop)) .stop)))))))) hm (by kernel_rfl) ?_
      simp only [hT, hr1, Int.toNat_natCast, ↓If_lit, eT, ↓If_lit, PCall, reduceSub, reduceCtorEq, eA, Nat.beq, List.toArray, reduceAdd, reduceLT, reduceLeDiff, reduceToNat]
      all_goals (try unfold lim); (repeat' first | (with_reducible refine And.intro ?_ ?_) | omega | intro _)
      all_goals (try refine Fun.plain ex rfl rfl rfl rfl ?_)
      all_goals (try simp only [hT, hLk, hap, List.length_map, ↓If_lit, eT, ↓If_lit, PCall, reduceSub, reduceCtorEq, eA, Nat.beq, List.toArray, reduceAdd, reduceLT, reduceLeDiff, reduceToNat])
      all_goals (try unfold lim); (repeat' first | (with_reducible refine And.intro ?_ ?_) | omega | intro _)
      all_goals first | (show In64 _; exact ⟨by omega, by omega⟩) | (refine ⟨⟨k + 1, hlt⟩, by simp only; omega, Le.of [] (Nat.zero_le _) ?_ ?_ ?_⟩ <;> first | (simp only [nodS, eL, eH, eG, leO, Nat.beq, reduceLT]; done) | (simp only [nodS, hap, eL, eH, eG, leO, Nat.beq, reduceLT]; first | done | rfl | omega | simp)) | rfl | skip
    · obtain rfl : k = n.cells.length := by omega
      have hf : decide ((n.cells.length : Int) < n.cells.length) = false := decide_eq_false (by omega)
      simp only [hT, hf, nodS, List.take_length, ↓If_lit, eA, Nat.beq, List.toArray, reduceAdd, reduceLT, reduceLeDiff, reduceToNat]
      repeat' first | (with_reducible refine And.intro ?_ ?_) | omega | intro _
      refine wpc_loop {k : Nat // k ≤ n.out.length} (fun k => ⟨[(1, .rp (nodS n)), (2, .cp 1 0 0), (3, .cp 2 0 0), (5, .int .i64 k.1)], [(2, ⟨10, [[.bool n.up, .int .i64 n.boot, .int .i64 n.hello, .own 5 (n.cells.map celO) celZ, .own 2 ((n.out.take k.1).map boxO) boxZ, .nils, .own 4 (n.outs.map outE) outZ, .own 3 (n.inns.map innE) innZ, intsO n.heard.1, intsO n.heard.2.1]], [], true⟩), (1, ⟨10, [nodZ0], [], true⟩)], 3⟩) (fun k => n.out.length - k.1) ⟨0, Nat.zero_le _⟩ (Le.of [] (Nat.zero_le _) ?_ ?_ ?_) ?_
      · simp only [eL, eH, eG, leO, Nat.beq, reduceLT]
      · simp only [nodS, eL, eH, eG, leO, Nat.beq, reduceLT]; first | done | rfl | simp | omega
      · simp only [nodS, eL, eH, eG, leO, Nat.beq, reduceLT]; try rfl
      · rintro ⟨k, hk⟩
        by_cases hlt : k < n.out.length
        · have hf : decide ((k : Int) < n.out.length) = true := decide_eq_true (by omega)
          have hr1 : ∀ d, (n.out.map boxS).getD k d = boxS (n.out.getD k box0) := fun d => getIn boxS n.out k d box0 hlt
          have hLk : (n.out.take k).length = k := by rw [List.length_take]; omega
          have ex := eb (n.out.getD k box0) (hn.o1 k hlt)
          have hap : (n.out.take k).map boxO ++ [boxO (n.out.getD k box0)] = (n.out.take (k + 1)).map boxO := by
            rw [List.take_add_one, List.getElem?_eq_getElem hlt, List.map_append, List.getD_eq_getElem?_getD, List.getElem?_eq_getElem hlt]; rfl
          simp only [boxS, boxO] at ex hr1 hap
          simp only [hT, hf, nodS, Int.toNat_natCast, ↓If_lit, eA, Nat.beq, List.toArray, reduceAdd, reduceLT, reduceLeDiff, reduceToNat]
          repeat' first | (with_reducible refine And.intro ?_ ?_) | omega | intro _
          refine wpc_draw (.take 0 (.take 2 (.take 3 (.take 4 (.take 5 (.take 6 (.alt 1 (.alt 7 (.alt 8 (.alt 9 (.take 10 (.alt 11 .done .stop)) .stop) .stop) .stop) (.alt 7 (.alt 1 (.alt 8 (.alt 9 (.take 10 (.alt 11 .done .stop)) .stop) .stop) (.alt 8 (.alt 1 (.alt 9 (.take 10 (.alt 11 .done .stop)) .stop) .stop) .stop)) .stop)))))))) hm (by kernel_rfl) ?_
          simp only [hT, hr1, Int.toNat_natCast, ↓If_lit, eT, ↓If_lit, PCall, reduceSub, reduceCtorEq, eA, Nat.beq, List.toArray, reduceAdd, reduceLT, reduceLeDiff, reduceToNat]
          all_goals (try unfold lim); (repeat' first | (with_reducible refine And.intro ?_ ?_) | omega | intro _)
          all_goals (try refine Fun.plain ex rfl rfl rfl rfl ?_)
          all_goals (try simp only [hT, hLk, hap, List.length_map, ↓If_lit, eT, ↓If_lit, PCall, reduceSub, reduceCtorEq, eA, Nat.beq, List.toArray, reduceAdd, reduceLT, reduceLeDiff, reduceToNat])
          all_goals (try unfold lim); (repeat' first | (with_reducible refine And.intro ?_ ?_) | omega | intro _)
          all_goals first | (show In64 _; exact ⟨by omega, by omega⟩) | (refine ⟨⟨k + 1, hlt⟩, by simp only; omega, Le.of [] (Nat.zero_le _) ?_ ?_ ?_⟩ <;> first | (simp only [nodS, eL, eH, eG, leO, Nat.beq, reduceLT]; done) | (simp only [nodS, hap, eL, eH, eG, leO, Nat.beq, reduceLT]; first | done | rfl | omega | simp)) | rfl | skip
        · obtain rfl : k = n.out.length := by omega
          have hf : decide ((n.out.length : Int) < n.out.length) = false := decide_eq_false (by omega)
          simp only [hT, hf, nodS, List.take_length, ↓If_lit, eA, Nat.beq, List.toArray, reduceAdd, reduceLT, reduceLeDiff, reduceToNat]
          repeat' first | (with_reducible refine And.intro ?_ ?_) | omega | intro _
          refine wpc_loop {k : Nat // k ≤ n.inn.length} (fun k => ⟨[(1, .rp (nodS n)), (2, .cp 1 0 0), (3, .cp 2 0 0), (6, .int .i64 k.1)], [(2, ⟨10, [[.bool n.up, .int .i64 n.boot, .int .i64 n.hello, .own 5 (n.cells.map celO) celZ, .own 2 (n.out.map boxO) boxZ, .own 2 ((n.inn.take k.1).map boxO) boxZ, .own 4 (n.outs.map outE) outZ, .own 3 (n.inns.map innE) innZ, intsO n.heard.1, intsO n.heard.2.1]], [], true⟩), (1, ⟨10, [nodZ0], [], true⟩)], 3⟩) (fun k => n.inn.length - k.1) ⟨0, Nat.zero_le _⟩ (Le.of [] (Nat.zero_le _) ?_ ?_ ?_) ?_
          · simp only [eL, eH, eG, leO, Nat.beq, reduceLT]
          · simp only [nodS, eL, eH, eG, leO, Nat.beq, reduceLT]; first | done | rfl | simp | omega
          · simp only [nodS, eL, eH, eG, leO, Nat.beq, reduceLT]; try rfl
          · rintro ⟨k, hk⟩
            by_cases hlt : k < n.inn.length
            · have hf : decide ((k : Int) < n.inn.length) = true := decide_eq_true (by omega)
              have hr1 : ∀ d, (n.inn.map boxS).getD k d = boxS (n.inn.getD k box0) := fun d => getIn boxS n.inn k d box0 hlt
              have hLk : (n.inn.take k).length = k := by rw [List.length_take]; omega
              have ex := eb (n.inn.getD k box0) (hn.i1 k hlt)
              have hap : (n.inn.take k).map boxO ++ [boxO (n.inn.getD k box0)] = (n.inn.take (k + 1)).map boxO := by
                rw [List.take_add_one, List.getElem?_eq_getElem hlt, List.map_append, List.getD_eq_getElem?_getD, List.getElem?_eq_getElem hlt]; rfl
              simp only [boxS, boxO] at ex hr1 hap
              simp only [hT, hf, nodS, Int.toNat_natCast, ↓If_lit, eA, Nat.beq, List.toArray, reduceAdd, reduceLT, reduceLeDiff, reduceToNat]
              repeat' first | (with_reducible refine And.intro ?_ ?_) | omega | intro _
              refine wpc_draw (.take 0 (.take 2 (.take 3 (.take 4 (.take 5 (.take 6 (.alt 1 (.alt 7 (.alt 8 (.alt 9 (.take 10 (.alt 11 .done .stop)) .stop) .stop) .stop) (.alt 7 (.alt 1 (.alt 8 (.alt 9 (.take 10 (.alt 11 .done .stop)) .stop) .stop) (.alt 8 (.alt 1 (.alt 9 (.take 10 (.alt 11 .done .stop)) .stop) .stop) .stop)) .stop)))))))) hm (by kernel_rfl) ?_
              simp only [hT, hr1, Int.toNat_natCast, ↓If_lit, eT, ↓If_lit, PCall, reduceSub, reduceCtorEq, eA, Nat.beq, List.toArray, reduceAdd, reduceLT, reduceLeDiff, reduceToNat]
              all_goals (try unfold lim); (repeat' first | (with_reducible refine And.intro ?_ ?_) | omega | intro _)
              all_goals (try refine Fun.plain ex rfl rfl rfl rfl ?_)
              all_goals (try simp only [hT, hLk, hap, List.length_map, ↓If_lit, eT, ↓If_lit, PCall, reduceSub, reduceCtorEq, eA, Nat.beq, List.toArray, reduceAdd, reduceLT, reduceLeDiff, reduceToNat])
              all_goals (try unfold lim); (repeat' first | (with_reducible refine And.intro ?_ ?_) | omega | intro _)
              all_goals first | (show In64 _; exact ⟨by omega, by omega⟩) | (refine ⟨⟨k + 1, hlt⟩, by simp only; omega, Le.of [] (Nat.zero_le _) ?_ ?_ ?_⟩ <;> first | (simp only [nodS, eL, eH, eG, leO, Nat.beq, reduceLT]; done) | (simp only [nodS, hap, eL, eH, eG, leO, Nat.beq, reduceLT]; first | done | rfl | omega | simp)) | rfl | skip
            · obtain rfl : k = n.inn.length := by omega
              have hf : decide ((n.inn.length : Int) < n.inn.length) = false := decide_eq_false (by omega)
              simp only [hT, hf, nodS, List.take_length, ↓If_lit, eA, Nat.beq, List.toArray, reduceAdd, reduceLT, reduceLeDiff, reduceToNat]
              repeat' first | (with_reducible refine And.intro ?_ ?_) | omega | intro _
              all_goals first | done | trivial | rfl
end Go.Proofs.YtjlmfcddbcoimaaGreat.C
