/- Whether a node is ok, by the program's text. -/
import Derived.Test.YtjlmfcddbcoimaaGreatCNodT
import Derived.Test.YtjlmfcddbcoimaaGreatCPlnF
set_option maxRecDepth 100000
set_option maxHeartbeats 4000000
set_option linter.unusedSimpArgs false
set_option linter.unusedVariables false
namespace Go.Proofs.YtjlmfcddbcoimaaGreat.C
open Go Go.Av Go.Proofs
open Nat (reduceAdd reduceLT reduceLeDiff reduceSub)
open Int (reduceToNat)
theorem res_ok {p : VPln} (h : res p = none) : ∀ j, j < 15 → chk p j = none := by
  unfold res at h
  rw [List.findSome?_eq_none_iff] at h
  intro j hj
  exact h j (by simpa using hj)
theorem res_ways {p : VPln} (h : res p = none) : ∀ k, k < p.ways.length → has (p.way k).1 p.cells.length = true ∧ has (p.way k).2.1 p.cells.length = true := fun k hk => bad7_has (first_ok (res_ok h 6 (by omega)) k hk)
theorem res_cells {p : VPln} (h : res p = none) : ∀ k, k < p.cells.length → has (p.cell k).1 p.1 = true := fun k hk => (bad5_has (first_ok (res_ok h 4 (by omega)) k hk)).1
theorem res_codes {p : VPln} (h : res p = none) : ∀ k, k < p.cells.length → codOk (p.cell k).2.2.2.1 = true := fun k hk => (bad5_has (first_ok (res_ok h 4 (by omega)) k hk)).2.2
theorem res_ends {p : VPln} (h : res p = none) (k : Nat) (hk : k < p.ways.length) : has (ends p k) p.1 = true := by
  have h2 := (res_ways h k hk).2
  obtain ⟨h3, h4⟩ := has_iff h2
  have := res_cells h (p.way k).2.1.toNat (by omega)
  unfold ends
  rw [Int.toNat_natCast]; exact this
theorem res_begins {p : VPln} (h : res p = none) (k : Nat) (hk : k < p.ways.length) : has (begins p k) p.1 = true := by
  have h2 := (res_ways h k hk).1
  obtain ⟨h3, h4⟩ := has_iff h2
  have := res_cells h (p.way k).1.toNat (by omega)
  unfold begins
  rw [Int.toNat_natCast]; exact this
theorem life_len {p : VPln} {n : VNod} {a : Int} (h : lifeB p n a = true) : (n.heard.1.length : Int) = p.1 := by
  unfold lifeB lifeMid at h
  simp only [Bool.and_eq_true, Bool.not_eq_true', Bool.or_eq_false_iff, Bool.not_eq_false', decide_eq_true_eq] at h
  exact h.2.1.2.1
theorem TY_goodI {P : Program} (hP : P = Tryz.prog) : (((((P.follows .mixedOrders = true) ∧ (fldT P 43 0 = some ((0, (false, 1))))) ∧ ((tyT P 3 = some ((false, 1))) ∧ ((fldT P 37 3 = some ((3, (false, 1)))) ∧ (tyT P 29 = some ((false, 1)))))) ∧ (((lkT P 29 = 1) ∧ (fldT P 43 3 = some ((3, (false, 1))))) ∧ ((tyT P 39 = some ((false, 1))) ∧ ((lkT P 39 = 1) ∧ (elT P 29 = some ((true, (5, 88)))))))) ∧ ((((tyT P 151 = some ((true, 5))) ∧ (zeroT P 151 = some (((.int .i64 0) :: (.nils :: (.nils :: ((.int .i64 0) :: (.nils :: [])))))))) ∧ ((elT P 39 = some ((true, (5, 56)))) ∧ ((tyT P 156 = some ((true, 5))) ∧ (fldT P 37 0 = some ((0, (false, 1))))))) ∧ (((tyT P 4 = some ((false, 1))) ∧ ((fldT P 156 0 = some ((0, (false, 1)))) ∧ (fldT P 37 4 = some ((4, (false, 1)))))) ∧ ((tyT P 30 = some ((false, 1))) ∧ ((lkT P 30 = 1) ∧ (fldT P 37 5 = some ((5, (false, 1))))))))) ∧ (((((fldT P 37 6 = some ((6, (false, 1)))) ∧ (tyT P 31 = some ((false, 1)))) ∧ ((lkT P 31 = 1) ∧ ((fldT P 37 7 = some ((7, (false, 1)))) ∧ (tyT P 32 = some ((false, 1)))))) ∧ (((lkT P 32 = 1) ∧ ((zeroT P 237 = some (((.int .i64 0) :: ((.int .i64 0) :: ((.int .i64 0) :: ((.int .i64 0) :: [])))))) ∧ (bldT P 237 = true))) ∧ ((plT P 237 0 = some ((0, 1))) ∧ ((plT P 237 1 = some ((1, 1))) ∧ (plT P 237 2 = some ((2, 1))))))) ∧ ((((plT P 237 3 = some ((3, 1))) ∧ (arT P 237 = some ((4, (false, 1))))) ∧ ((lkT P 237 = 0) ∧ ((fldT P 43 4 = some ((4, (false, 1)))) ∧ (tyT P 40 = some ((false, 1)))))) ∧ (((lkT P 40 = 1) ∧ ((elT P 40 = some ((true, (5, 56)))) ∧ (tyT P 160 = some ((true, 5))))) ∧ ((zeroT P 160 = some (((.int .i64 0) :: ((.int .i64 0) :: ((.int .i64 0) :: ((.bool false) :: (.nils :: []))))))) ∧ ((elT P 30 = some ((true, (2, 32)))) ∧ (tyT P 163 = some ((true, 2)))))))) := by subst hP; refine ⟨⟨⟨⟨⟨?_, ?_⟩, ⟨?_, ⟨?_, ?_⟩⟩⟩, ⟨⟨?_, ?_⟩, ⟨?_, ⟨?_, ?_⟩⟩⟩⟩, ⟨⟨⟨?_, ?_⟩, ⟨?_, ⟨?_, ?_⟩⟩⟩, ⟨⟨?_, ⟨?_, ?_⟩⟩, ⟨?_, ⟨?_, ?_⟩⟩⟩⟩⟩, ⟨⟨⟨⟨?_, ?_⟩, ⟨?_, ⟨?_, ?_⟩⟩⟩, ⟨⟨?_, ⟨?_, ?_⟩⟩, ⟨?_, ⟨?_, ?_⟩⟩⟩⟩, ⟨⟨⟨?_, ?_⟩, ⟨?_, ⟨?_, ?_⟩⟩⟩, ⟨⟨?_, ⟨?_, ?_⟩⟩, ⟨?_, ⟨?_, ?_⟩⟩⟩⟩⟩⟩ <;> kernel_rfl
theorem goodI {P : Program} [Known P] (hP : P = Tryz.prog) (p : VPln) (hs : Sz p) (hr : res p = none) (n : VNod) (hn : SzN n) (a : Int) : Fun P 98 [.rp (plnS p), .rp (nodS n), .int .i64 a] (.bool (has a p.1 && goodB p n a)) := by
  refine fun_of (fn := Tryz.f98) (hP ▸ Tryz.func98) (by kernel_rfl) (by kernel_rfl) (by kernel_rfl) (by kernel_rfl) ?_
  have hT := TY_goodI hP
  have hm : P.follows .mixedOrders = true := by subst hP; kernel_rfl
  have hh := plnHas hP a p.1
  have e := fun h => nodLifeI hP p n hn a h
  have ec := fun c i m => nodCellOkI hP c i m
  have eb := fun b w m => nodBoxOkI hP b w m
  have be := fun k h h1 => beginsI hP p k h h1
  have en := fun k h h1 => endsI hP p k h h1
  have ha := fun k h1 h2 h3 h4 h5 h6 => halvesI hP p n a k h1 h2 h3 h4 h5 h6
  clear hP
  intro hl
  clear hl
  simp only [plnS, nodS, Tryz.f98, hT, eA, Nat.beq, List.toArray, reduceAdd, reduceLT, reduceLeDiff, reduceToNat]
  simp only [plnS, nodS] at e ha
  cases hha : has a p.1
  · refine wpc_read [0, 1, 2, 3, 4, 5, 6, 7, 8, 9, 10, 11, 12, 13, 14, 15, 16, 17, 18, 19, 20, 21, 22, 23, 24, 25, 26] hm (by kernel_rfl) ?_
    simp only [hT, ↓If_lit, eT, ↓If_lit, reduceSub, reduceCtorEq, eA, Nat.beq, List.toArray, reduceAdd, reduceLT, reduceLeDiff, reduceToNat]
    refine Fun.pcall (hh) (by exact rfl) rfl rfl rfl rfl ?_; simp only [hT, nneg, decide_true, decide_false, ↓If_lit, Int.cast_ofNat_Int, Int.reduceLT, Int.reduceLE, hha, Bool.not_false, eT, ↓If_lit, reduceSub, reduceCtorEq, eA, Nat.beq, List.toArray, reduceAdd, reduceLT, reduceLeDiff, reduceToNat]; (try unfold lim); repeat first | ((with_reducible refine And.intro ?_ ?_); (first | omega | exact ⟨by omega, by omega⟩ | rfl)) | intro _
  · have e := e hha
    rw [Bool.true_and]
    have hbc : n.cells.length ≤ 140737488355328 := by have := hn.c; omega
    have hbp : p.cells.length ≤ 140737488355328 := by have := hs.c; omega
    have hbw : p.ways.length ≤ 140737488355328 := by have := hs.w; omega
    have hbo : n.out.length ≤ 140737488355328 := by have := hn.o; omega
    have hbi : n.inn.length ≤ 140737488355328 := by have := hn.i; omega
    have hbu : n.outs.length ≤ 140737488355328 := by have := hn.u; omega
    have hbv : n.inns.length ≤ 140737488355328 := by have := hn.v; omega
    refine wpc_read [0, 1, 2, 3, 4, 5, 6, 7, 8, 9, 10, 11, 12, 13, 14, 15, 16, 17, 18, 19, 20, 21, 22, 23, 24, 25, 26] hm (by kernel_rfl) ?_
    simp only [hT, ↓If_lit, eT, ↓If_lit, reduceSub, reduceCtorEq, eA, Nat.beq, List.toArray, reduceAdd, reduceLT, reduceLeDiff, reduceToNat]
    refine Fun.pcall (hh) (by exact rfl) rfl rfl rfl rfl ?_; simp only [hT, nneg, decide_true, decide_false, ↓If_lit, Int.cast_ofNat_Int, Int.reduceLT, Int.reduceLE, hha, Bool.not_true, eT, ↓If_lit, reduceSub, reduceCtorEq, eA, Nat.beq, List.toArray, reduceAdd, reduceLT, reduceLeDiff, reduceToNat]; (try unfold lim); repeat first | ((with_reducible refine And.intro ?_ ?_); (first | omega | exact ⟨by omega, by omega⟩ | rfl)) | intro _
    refine Fun.pcall (e) (by exact rfl) rfl rfl rfl rfl ?_; simp only [hT, nneg, decide_true, decide_false, ↓If_lit, Int.cast_ofNat_Int, Int.reduceLT, Int.reduceLE, eT, ↓If_lit, reduceSub, reduceCtorEq, eA, Nat.beq, List.toArray, reduceAdd, reduceLT, reduceLeDiff, reduceToNat]; (try unfold lim); repeat first | ((with_reducible refine And.intro ?_ ?_); (first | omega | exact ⟨by omega, by omega⟩ | rfl)) | intro _
    refine If.mk (fun q1 => ?_) (fun q1 => ?_)
    · ((try simp only [Bool.not_eq_true', Bool.not_eq_false'] at *); unfold goodB; simp only [*, eQ]; done)
    have q1 : lifeB p n a = true := by cases hx : lifeB p n a <;> simp_all
    repeat' (with_reducible refine And.intro ?_ ?_)
    all_goals first | exact hbc | exact hbp | skip
    refine If.mk (fun q2 => ?_) (fun q2 => ?_)
    · ((try simp only [Bool.not_eq_true', Bool.not_eq_false'] at *); unfold goodB; simp only [*, eQ]; done)
    have q2' : n.cells.length = p.cells.length := by simp at q2; omega
    intro _
    refine wpc_loop {k : Nat // k ≤ p.cells.length ∧ (List.range k).all (cellsAt p n a) = true} (fun k => ⟨[(0, .rp (plnS p)), (1, .rp (nodS n)), (2, .int .i64 a), (43, .sl 5 (n.cells.map celS) celZ), (44, .int .i64 n.cells.length), (45, .int .i64 k.1)], [], 0⟩) (fun k => p.cells.length - k.1) ⟨0, Nat.zero_le _, rfl⟩ (Le.of [] (Nat.zero_le _) ?_ ?_ ?_) ?_
    · simp only [eL, eH, eG, leO, Nat.beq, reduceLT]
    · simp only [plnS, nodS, eL, eH, eG, leO, Nat.beq, reduceLT]; first | done | rfl | simp | omega
    · simp only [plnS, nodS, eL, eH, eG, leO, Nat.beq, reduceLT]
    · rintro ⟨k, hk, hp⟩
      by_cases hlt : k < p.cells.length
      · have hf : decide ((k : Int) < n.cells.length) = true := decide_eq_true (by omega)
        have hr1 : ∀ d, (n.cells.map celS).getD k d = celS (n.cell k) := fun d => getIn celS n.cells k d cel0 (by omega)
        have hr2 : ∀ d, (p.cells.map cellS).getD k d = cellS (p.cell k) := fun d => getIn cellS p.cells k d c0 hlt
        have hta := rall_succ (cellsAt p n a) k
        have hab := rall_bad (cellsAt p n a) p.cells.length k hlt
        have hat : cellsAt p n a k = celB (n.cell k) (p.cell k) (n.up && decide ((p.cell k).1 = a)) := rfl
        have ec := ec (n.cell k) (p.cell k)
        simp only [celS, cellS] at ec hr1 hr2
        simp only [hT, hf, hr1, nodS, plnS, Int.toNat_natCast, ↓If_lit, eA, Nat.beq, List.toArray, reduceAdd, reduceLT, reduceLeDiff, reduceToNat]
        (try unfold lim); repeat first | ((with_reducible refine And.intro ?_ ?_); (first | omega | exact ⟨by omega, by omega⟩ | rfl)) | intro _
        have hbad : cellsAt p n a k = false → false = goodB p n a := fun e => by unfold goodB; rw [hab e]; simp only [*, eQ]
        all_goals refine wpc_read [0, 1, 2, 3, 4, 5, 6, 7, 8, 9, 10, 11, 12, 13, 14, 15, 16, 17, 18, 19, 20, 21, 22, 23, 24, 25] hm (by kernel_rfl) ?_
        all_goals simp only [hT, hr2, Int.toNat_natCast, ↓If_lit, eT, ↓If_lit, reduceSub, reduceCtorEq, eA, Nat.beq, List.toArray, reduceAdd, reduceLT, reduceLeDiff, reduceToNat]
        all_goals repeat' first
          | (refine If.mk (fun q => ?_) (fun q => ?_))
          | (show In64 _; exact ⟨by omega, by omega⟩)
          | (with_reducible refine And.intro ?_ ?_)
          | omega
          | (refine Fun.pcall (ec (decide ((p.cell k).1 = a))) (by exact rfl) rfl rfl rfl rfl ?_; simp only [hT, Int.toNat_natCast, ↓If_lit, eT, ↓If_lit, reduceSub, reduceCtorEq, eA, Nat.beq, List.toArray, reduceAdd, reduceLT, reduceLeDiff, reduceToNat])
          | (refine Fun.pcall (ec false) (by exact rfl) rfl rfl rfl rfl ?_; simp only [hT, Int.toNat_natCast, ↓If_lit, eT, ↓If_lit, reduceSub, reduceCtorEq, eA, Nat.beq, List.toArray, reduceAdd, reduceLT, reduceLeDiff, reduceToNat])
        all_goals try simp only [Bool.not_eq_true', Bool.not_eq_false'] at *
        all_goals first
          | exact hbad (by rw [hat]; simp only [*, eQ]; done)
          | (have hok : cellsAt p n a k = true := by rw [hat]; simp only [*, eQ]; done
             try refine And.intro (show In64 _ from ⟨by omega, by omega⟩) ?_
             refine ⟨⟨k + 1, hlt, by rw [hta, hp, hok]; rfl⟩, by simp only; omega, Le.of [] (Nat.zero_le _) ?_ ?_ ?_⟩
             · simp only [eL, eH, eG, leO, Nat.beq, reduceLT]
             · simp only [plnS, nodS, eL, eH, eG, leO, Nat.beq, reduceLT]; first | done | rfl | simp | omega
             · simp only [plnS, nodS, eL, eH, eG, leO, Nat.beq, reduceLT])
      · obtain rfl : k = p.cells.length := by omega
        have hf : decide ((p.cells.length : Int) < n.cells.length) = false := decide_eq_false (by omega)
        simp only [hT, hf, plnS, nodS, ↓If_lit, eA, Nat.beq, List.toArray, reduceAdd, reduceLT, reduceLeDiff, reduceToNat]
        (try unfold lim); repeat first | ((with_reducible refine And.intro ?_ ?_); (first | omega | exact ⟨by omega, by omega⟩ | rfl)) | intro _
        refine wpc_read [0, 1, 2, 3, 4, 5, 6, 7, 8, 9, 10, 11, 12, 13, 14, 15, 16, 17, 18, 19, 20, 21] hm (by kernel_rfl) ?_
        simp only [hT, ↓If_lit, eT, ↓If_lit, reduceSub, reduceCtorEq, eA, Nat.beq, List.toArray, reduceAdd, reduceLT, reduceLeDiff, reduceToNat]
        repeat' (with_reducible refine And.intro ?_ ?_)
        all_goals first | exact hbo | exact hbi | exact hbu | exact hbv | skip
        have hcl : (List.range p.cells.length).all (cellsAt p n a) = true := hp
        clear hp hk hlt hf
        have lbad : lensB p n = false → false = goodB p n a := fun h => by unfold goodB; rw [h]; simp only [Bool.false_and, Bool.and_false]
        refine wpc_loop {i : Nat // i = 0 ∨ (i = 1 ∧ n.out.length = p.ways.length) ∨ (i = 2 ∧ n.out.length = p.ways.length ∧ n.inn.length = p.ways.length) ∨ (i = 3 ∧ n.out.length = p.ways.length ∧ n.inn.length = p.ways.length ∧ n.outs.length = p.ways.length) ∨ (i = 4 ∧ n.out.length = p.ways.length ∧ n.inn.length = p.ways.length ∧ n.outs.length = p.ways.length ∧ n.inns.length = p.ways.length)} (fun k => ⟨[(0, .rp (plnS p)), (1, .rp (nodS n)), (2, .int .i64 a), (97, .agg [.int .i64 n.out.length, .int .i64 n.inn.length, .int .i64 n.outs.length, .int .i64 n.inns.length]), (98, .int .i64 k.1)], [], 0⟩) (fun k => 4 - k.1) ⟨0, .inl rfl⟩ (Le.of [] (Nat.zero_le _) ?_ ?_ ?_) ?_
        · simp only [eL, eH, eG, leO, Nat.beq, reduceLT]
        · simp only [plnS, nodS, eL, eH, eG, leO, Nat.beq, reduceLT]; first | done | rfl | simp | omega
        · simp only [plnS, nodS, eL, eH, eG, leO, Nat.beq, reduceLT]
        · rintro ⟨i, rfl | ⟨rfl, l1⟩ | ⟨rfl, l1, l2⟩ | ⟨rfl, l1, l2, l3⟩ | ⟨rfl, l1, l2, l3, l4⟩⟩
          · simp only [hT, plnS, nodS, Int.cast_ofNat_Int, Int.reduceLT, decide_true, ↓If_lit, eA, Nat.beq, List.toArray, reduceAdd, reduceLT, reduceLeDiff, reduceToNat]
            (try unfold lim); repeat first | ((with_reducible refine And.intro ?_ ?_); (first | omega | exact ⟨by omega, by omega⟩ | rfl)) | intro _
            refine If.mk (fun q => ?_) (fun q => ?_)
            · exact lbad (by unfold lensB; (try simp only [Bool.not_eq_true', Bool.not_eq_false'] at *); simp only [*, eQ]; done)
            have hq : n.out.length = p.ways.length := by simp at q; omega
            refine ⟨show In64 _ from ⟨by omega, by omega⟩, ⟨1, .inr (.inl ⟨rfl, hq⟩)⟩, by simp only; omega, Le.of [] (Nat.zero_le _) ?_ ?_ ?_⟩
            · simp only [eL, eH, eG, leO, Nat.beq, reduceLT]
            · simp only [plnS, nodS, eL, eH, eG, leO, Nat.beq, reduceLT]; first | done | rfl | simp | omega
            · simp only [plnS, nodS, eL, eH, eG, leO, Nat.beq, reduceLT]
          · simp only [hT, plnS, nodS, Int.cast_ofNat_Int, Int.reduceLT, decide_true, ↓If_lit, eA, Nat.beq, List.toArray, reduceAdd, reduceLT, reduceLeDiff, reduceToNat]
            (try unfold lim); repeat first | ((with_reducible refine And.intro ?_ ?_); (first | omega | exact ⟨by omega, by omega⟩ | rfl)) | intro _
            refine If.mk (fun q => ?_) (fun q => ?_)
            · exact lbad (by unfold lensB; (try simp only [Bool.not_eq_true', Bool.not_eq_false'] at *); simp only [*, eQ]; done)
            have hq : n.inn.length = p.ways.length := by simp at q; omega
            refine ⟨show In64 _ from ⟨by omega, by omega⟩, ⟨2, .inr (.inr (.inl ⟨rfl, l1, hq⟩))⟩, by simp only; omega, Le.of [] (Nat.zero_le _) ?_ ?_ ?_⟩
            · simp only [eL, eH, eG, leO, Nat.beq, reduceLT]
            · simp only [plnS, nodS, eL, eH, eG, leO, Nat.beq, reduceLT]; first | done | rfl | simp | omega
            · simp only [plnS, nodS, eL, eH, eG, leO, Nat.beq, reduceLT]
          · simp only [hT, plnS, nodS, Int.cast_ofNat_Int, Int.reduceLT, decide_true, ↓If_lit, eA, Nat.beq, List.toArray, reduceAdd, reduceLT, reduceLeDiff, reduceToNat]
            (try unfold lim); repeat first | ((with_reducible refine And.intro ?_ ?_); (first | omega | exact ⟨by omega, by omega⟩ | rfl)) | intro _
            refine If.mk (fun q => ?_) (fun q => ?_)
            · exact lbad (by unfold lensB; (try simp only [Bool.not_eq_true', Bool.not_eq_false'] at *); simp only [*, eQ]; done)
            have hq : n.outs.length = p.ways.length := by simp at q; omega
            refine ⟨show In64 _ from ⟨by omega, by omega⟩, ⟨3, .inr (.inr (.inr (.inl ⟨rfl, l1, l2, hq⟩)))⟩, by simp only; omega, Le.of [] (Nat.zero_le _) ?_ ?_ ?_⟩
            · simp only [eL, eH, eG, leO, Nat.beq, reduceLT]
            · simp only [plnS, nodS, eL, eH, eG, leO, Nat.beq, reduceLT]; first | done | rfl | simp | omega
            · simp only [plnS, nodS, eL, eH, eG, leO, Nat.beq, reduceLT]
          · simp only [hT, plnS, nodS, Int.cast_ofNat_Int, Int.reduceLT, decide_true, ↓If_lit, eA, Nat.beq, List.toArray, reduceAdd, reduceLT, reduceLeDiff, reduceToNat]
            (try unfold lim); repeat first | ((with_reducible refine And.intro ?_ ?_); (first | omega | exact ⟨by omega, by omega⟩ | rfl)) | intro _
            refine If.mk (fun q => ?_) (fun q => ?_)
            · exact lbad (by unfold lensB; (try simp only [Bool.not_eq_true', Bool.not_eq_false'] at *); simp only [*, eQ]; done)
            have hq : n.inns.length = p.ways.length := by simp at q; omega
            refine ⟨show In64 _ from ⟨by omega, by omega⟩, ⟨4, .inr (.inr (.inr (.inr ⟨rfl, l1, l2, l3, hq⟩)))⟩, by simp only; omega, Le.of [] (Nat.zero_le _) ?_ ?_ ?_⟩
            · simp only [eL, eH, eG, leO, Nat.beq, reduceLT]
            · simp only [plnS, nodS, eL, eH, eG, leO, Nat.beq, reduceLT]; first | done | rfl | simp | omega
            · simp only [plnS, nodS, eL, eH, eG, leO, Nat.beq, reduceLT]
          · simp only [hT, plnS, nodS, Int.cast_ofNat_Int, Int.reduceLT, decide_false, ↓If_lit, eA, Nat.beq, List.toArray, reduceAdd, reduceLT, reduceLeDiff, reduceToNat]
            (try unfold lim); repeat first | ((with_reducible refine And.intro ?_ ?_); (first | omega | exact ⟨by omega, by omega⟩ | rfl)) | intro _
            have hle : lensB p n = true := by unfold lensB; simp only [l1, l2, l3, l4, decide_true, Bool.and_self]
            have hlen := life_len q1
            clear lbad
            refine wpc_loop {k : Nat // k ≤ p.ways.length ∧ (List.range k).all (waysAt p n a) = true} (fun k => ⟨[(0, .rp (plnS p)), (1, .rp (nodS n)), (2, .int .i64 a), (112, .sl 5 (p.ways.map wayS) wZ), (113, .int .i64 p.ways.length), (114, .int .i64 k.1)], [], 0⟩) (fun k => p.ways.length - k.1) ⟨0, Nat.zero_le _, rfl⟩ (Le.of [] (Nat.zero_le _) ?_ ?_ ?_) ?_
            · simp only [eL, eH, eG, leO, Nat.beq, reduceLT]
            · simp only [plnS, nodS, eL, eH, eG, leO, Nat.beq, reduceLT]; first | done | rfl | simp | omega
            · simp only [plnS, nodS, eL, eH, eG, leO, Nat.beq, reduceLT]
            · rintro ⟨k, hk, hp⟩
              by_cases hlt : k < p.ways.length
              · have hf : decide ((k : Int) < p.ways.length) = true := decide_eq_true (by omega)
                have hr3 : ∀ d, (n.out.map boxS).getD k d = boxS (n.ob k) := fun d => getIn boxS n.out k d box0 (by omega)
                have hr4 : ∀ d, (n.inn.map boxS).getD k d = boxS (n.ib k) := fun d => getIn boxS n.inn k d box0 (by omega)
                have hr5 : ∀ d, (p.ways.map wayS).getD k d = wayS (p.way k) := fun d => getIn wayS p.ways k d w0 hlt
                have hta := rall_succ (waysAt p n a) k
                have hab := rall_bad (waysAt p n a) p.ways.length k hlt
                have hat : waysAt p n a k = (boxB (n.ob k) (p.way k) (n.up && decide (begins p k = a)) && (boxB (n.ib k) (p.way k) (n.up && decide (ends p k = a)) && halvesB p n a k)) := rfl
                have hwk : has (k : Int) p.ways.length = true := by unfold has; simp; omega
                obtain ⟨w1, w2⟩ := res_ways hr k hlt
                have w1' : has (p.way (k : Int).toNat).1 p.cells.length = true := by rw [Int.toNat_natCast]; exact w1
                have w2' : has (p.way (k : Int).toNat).2.1 p.cells.length = true := by rw [Int.toNat_natCast]; exact w2
                have be := be k hwk w1'
                have en := en k hwk w2'
                have ha := ha k hlt l3 l4 w1 w2 (by rw [hlen]; exact res_ends hr k hlt)
                have eo := fun m => eb (n.ob k) (p.way k) m
                have ei := fun m => eb (n.ib k) (p.way k) m
                simp only [boxS, wayS] at eo ei hr3 hr4 hr5
                simp only [plnS] at be en
                simp only [hT, hf, hr5, nodS, plnS, Int.toNat_natCast, ↓If_lit, eA, Nat.beq, List.toArray, reduceAdd, reduceLT, reduceLeDiff, reduceToNat]
                (try unfold lim); repeat first | ((with_reducible refine And.intro ?_ ?_); (first | omega | exact ⟨by omega, by omega⟩ | rfl)) | intro _
                have hbad : waysAt p n a k = false → false = goodB p n a := fun e => by unfold goodB; rw [hab e]; simp only [*, eQ]
                cases hup : n.up
                all_goals simp only [hup] at ha
                all_goals refine wpc_read [0, 1, 2, 3, 4, 5, 6, 7, 8, 9, 10, 11, 12, 13, 14, 15, 16, 17, 18, 19, 20, 21, 22, 23, 24, 25, 26, 27, 28, 29, 30, 31, 32, 33, 34, 35, 36, 37, 38, 39, 40, 41, 42, 43, 44, 45, 46, 47, 48, 49, 50, 51] hm (by kernel_rfl) ?_
                all_goals simp only [hT, hup, hr3, hr4, Int.toNat_natCast, ↓If_lit, eT, ↓If_lit, reduceSub, reduceCtorEq, eA, Nat.beq, List.toArray, reduceAdd, reduceLT, reduceLeDiff, reduceToNat]
                all_goals repeat' first
                  | (refine If.mk (fun q => ?_) (fun q => ?_))
                  | (show In64 _; exact ⟨by omega, by omega⟩)
                  | (with_reducible refine And.intro ?_ ?_)
                  | omega
                  | (refine Fun.pcall (eo (decide (begins p k = a))) (by exact rfl) rfl rfl rfl rfl ?_; simp only [hT, hup, hr3, hr4, Int.toNat_natCast, ↓If_lit, eT, ↓If_lit, reduceSub, reduceCtorEq, eA, Nat.beq, List.toArray, reduceAdd, reduceLT, reduceLeDiff, reduceToNat])
                  | (refine Fun.pcall (eo false) (by exact rfl) rfl rfl rfl rfl ?_; simp only [hT, hup, hr3, hr4, Int.toNat_natCast, ↓If_lit, eT, ↓If_lit, reduceSub, reduceCtorEq, eA, Nat.beq, List.toArray, reduceAdd, reduceLT, reduceLeDiff, reduceToNat])
                  | (refine Fun.pcall (ei (decide (ends p k = a))) (by exact rfl) rfl rfl rfl rfl ?_; simp only [hT, hup, hr3, hr4, Int.toNat_natCast, ↓If_lit, eT, ↓If_lit, reduceSub, reduceCtorEq, eA, Nat.beq, List.toArray, reduceAdd, reduceLT, reduceLeDiff, reduceToNat])
                  | (refine Fun.pcall (ei false) (by exact rfl) rfl rfl rfl rfl ?_; simp only [hT, hup, hr3, hr4, Int.toNat_natCast, ↓If_lit, eT, ↓If_lit, reduceSub, reduceCtorEq, eA, Nat.beq, List.toArray, reduceAdd, reduceLT, reduceLeDiff, reduceToNat])
                  | (refine Fun.pcall (be) (by exact rfl) rfl rfl rfl rfl ?_; simp only [hT, hup, hr3, hr4, Int.toNat_natCast, ↓If_lit, eT, ↓If_lit, reduceSub, reduceCtorEq, eA, Nat.beq, List.toArray, reduceAdd, reduceLT, reduceLeDiff, reduceToNat])
                  | (refine Fun.pcall (en) (by exact rfl) rfl rfl rfl rfl ?_; simp only [hT, hup, hr3, hr4, Int.toNat_natCast, ↓If_lit, eT, ↓If_lit, reduceSub, reduceCtorEq, eA, Nat.beq, List.toArray, reduceAdd, reduceLT, reduceLeDiff, reduceToNat])
                  | (refine Fun.pcall (ha) (by exact rfl) rfl rfl rfl rfl ?_; simp only [hT, hup, hr3, hr4, Int.toNat_natCast, ↓If_lit, eT, ↓If_lit, reduceSub, reduceCtorEq, eA, Nat.beq, List.toArray, reduceAdd, reduceLT, reduceLeDiff, reduceToNat])
                all_goals try simp only [Bool.not_eq_true', Bool.not_eq_false'] at *
                all_goals first
                  | exact hbad (by rw [hat]; simp only [*, eQ]; done)
                  | (have hok : waysAt p n a k = true := by rw [hat]; simp only [*, eQ]; done
                     try refine And.intro (show In64 _ from ⟨by omega, by omega⟩) ?_
                     refine ⟨⟨k + 1, hlt, by rw [hta, hp, hok]; rfl⟩, by simp only; omega, Le.of [] (Nat.zero_le _) ?_ ?_ ?_⟩
                     · simp only [eL, eH, eG, leO, Nat.beq, reduceLT]
                     · simp only [plnS, nodS, eL, eH, eG, leO, Nat.beq, reduceLT]; first | done | rfl | simp | omega
                     · simp only [plnS, nodS, eL, eH, eG, leO, Nat.beq, reduceLT])
              · obtain rfl : k = p.ways.length := by omega
                have hf : decide ((p.ways.length : Int) < p.ways.length) = false := decide_eq_false (by omega)
                simp only [hT, hf, plnS, nodS, ↓If_lit, eA, Nat.beq, List.toArray, reduceAdd, reduceLT, reduceLeDiff, reduceToNat]
                have hd2 : decide ((n.cells.length : Int) = p.cells.length) = true := decide_eq_true (by omega)
                simp only [goodB, hd2, q1, hcl, hle, hp, Bool.and_self]
end Go.Proofs.YtjlmfcddbcoimaaGreat.C
