/- Whether a node and its halves of ways are ok, by the given text. -/
import Derived.Test.YtjlmfcddbcoimaaGreatCNodW
set_option maxRecDepth 100000
set_option maxHeartbeats 4000000
set_option linter.unusedSimpArgs false
set_option linter.unusedVariables false
namespace Go.Proofs.YtjlmfcddbcoimaaGreat.C
open Go Go.Av Go.Proofs
open Nat (reduceAdd reduceLT reduceLeDiff reduceSub)
open Int (reduceToNat)
theorem res_depth {p : VPln} (h : res p = none) (k : Nat) (hk : k < p.ways.length) : 1 ≤ (p.way k).2.2.1 ∧ (p.way k).2.2.1 ≤ 4 := by
  have h7 := first_ok (res_ok h 6 (by omega)) k hk
  unfold bad7 at h7
  simp only [Bool.or_eq_false_iff, decide_eq_false_iff_not] at h7
  have h8 := h7.2.2.2
  omega
theorem TY_wayOkS {P : Program} (hP : P = Tryz.prog) : (((((P.follows .mixedOrders = true) ∧ (fldT P 43 4 = some ((4, (false, 1))))) ∧ ((tyT P 40 = some ((false, 1))) ∧ ((elT P 40 = some ((true, (5, 56)))) ∧ (tyT P 160 = some ((true, 5)))))) ∧ (((zeroT P 160 = some (((.int .i64 0) :: ((.int .i64 0) :: ((.int .i64 0) :: ((.bool false) :: (.nils :: []))))))) ∧ ((fldT P 160 2 = some ((2, (false, 1)))) ∧ (tyT P 3 = some ((false, 1))))) ∧ ((zeroT P 163 = some (((.int .i64 0) :: (.nils :: [])))) ∧ ((tyT P 163 = some ((true, 2))) ∧ (fldT P 37 4 = some ((4, (false, 1)))))))) ∧ ((((tyT P 30 = some ((false, 1))) ∧ (elT P 30 = some ((true, (2, 32))))) ∧ ((fldT P 37 5 = some ((5, (false, 1)))) ∧ ((fldT P 163 0 = some ((0, (false, 1)))) ∧ (fldT P 37 6 = some ((6, (false, 1))))))) ∧ (((tyT P 31 = some ((false, 1))) ∧ ((elT P 31 = some ((true, (4, 32)))) ∧ (tyT P 201 = some ((true, 4))))) ∧ ((fldT P 37 7 = some ((7, (false, 1)))) ∧ ((tyT P 32 = some ((false, 1))) ∧ (elT P 32 = some ((true, (3, 24))))))))) ∧ (((((tyT P 204 = some ((true, 3))) ∧ (fldT P 37 0 = some ((0, (false, 1))))) ∧ ((tyT P 4 = some ((false, 1))) ∧ ((fldT P 43 3 = some ((3, (false, 1)))) ∧ (tyT P 39 = some ((false, 1)))))) ∧ (((fldT P 160 0 = some ((0, (false, 1)))) ∧ ((elT P 39 = some ((true, (5, 56)))) ∧ (fldT P 156 0 = some ((0, (false, 1)))))) ∧ ((fldT P 160 1 = some ((1, (false, 1)))) ∧ ((fldT P 163 1 = some ((1, (false, 1)))) ∧ (tyT P 79 = some ((false, 1))))))) ∧ ((((lkT P 79 = 1) ∧ ((flatT P 201 4 = true) ∧ (zeroT P 204 = some (((.int .i64 0) :: ((.int .i64 0) :: ((.int .i64 0) :: []))))))) ∧ ((bldT P 204 = true) ∧ ((flatT P 204 3 = true) ∧ (fldT P 201 0 = some ((0, (false, 1))))))) ∧ (((fldT P 37 1 = some ((1, (false, 1)))) ∧ ((fldT P 201 1 = some ((1, (false, 1)))) ∧ (fldT P 37 8 = some ((8, (true, 2)))))) ∧ ((fldT P 35 0 = some ((0, (false, 1)))) ∧ ((tyT P 33 = some ((false, 1))) ∧ (elT P 33 = some ((false, (1, 8))))))))) := by subst hP; refine ⟨⟨⟨⟨⟨?_, ?_⟩, ⟨?_, ⟨?_, ?_⟩⟩⟩, ⟨⟨?_, ⟨?_, ?_⟩⟩, ⟨?_, ⟨?_, ?_⟩⟩⟩⟩, ⟨⟨⟨?_, ?_⟩, ⟨?_, ⟨?_, ?_⟩⟩⟩, ⟨⟨?_, ⟨?_, ?_⟩⟩, ⟨?_, ⟨?_, ?_⟩⟩⟩⟩⟩, ⟨⟨⟨⟨?_, ?_⟩, ⟨?_, ⟨?_, ?_⟩⟩⟩, ⟨⟨?_, ⟨?_, ?_⟩⟩, ⟨?_, ⟨?_, ?_⟩⟩⟩⟩, ⟨⟨⟨?_, ⟨?_, ?_⟩⟩, ⟨?_, ⟨?_, ?_⟩⟩⟩, ⟨⟨?_, ⟨?_, ?_⟩⟩, ⟨?_, ⟨?_, ?_⟩⟩⟩⟩⟩⟩ <;> kernel_rfl
theorem wayOkS {P : Program} [Known P] (hP : P = Tryz.prog) (p : VPln) (hs : Sz p) (hr : res p = none) (n : VNod) (hn : SzN n) (a : Int) (k : Nat) (hk : k < p.ways.length) (l1 : n.out.length = p.ways.length) (l2 : n.inn.length = p.ways.length) (l3 : n.outs.length = p.ways.length) (l4 : n.inns.length = p.ways.length) (l5 : (n.heard.1.length : Int) = p.1) : Fun P 258 [.agg (plnS p), .agg (nodS n), .int .i64 a, .int .i64 k] (.bool (waysAt p n a k)) := by
  refine fun_of (fn := Tryz.f258) (hP ▸ Tryz.func258) (by kernel_rfl) (by kernel_rfl) (by kernel_rfl) (by kernel_rfl) ?_
  have hT := TY_wayOkS hP
  have hm : P.follows .mixedOrders = true := by subst hP; kernel_rfl
  have bn := fun d => boxNewS hP d
  have bo := fun b => boxOkS hP b
  have oo := outOkS hP (n.oh k)
  have io := inOkS hP (n.ih k)
  have op := outOpenS hP 1
  clear hP
  intro hl
  clear hl
  simp only [plnS, nodS, Tryz.f258, hT, eA, Nat.beq, List.toArray, reduceAdd, reduceLT, reduceLeDiff, reduceToNat]
  obtain ⟨w1, w1'⟩ := has_iff (res_ways hr k hk).1
  obtain ⟨w2, w2'⟩ := has_iff (res_ways hr k hk).2
  obtain ⟨d1, d4⟩ := res_depth hr k hk
  obtain ⟨be0, be1⟩ := has_iff (res_begins hr k hk)
  obtain ⟨en0, en1⟩ := has_iff (res_ends hr k hk)
  have hk0 : (0 : Int) ≤ k := by omega
  have hr1 : ∀ d, (n.out.map boxS).getD k d = boxS (n.ob k) := fun d => getIn boxS n.out k d box0 (by omega)
  have hr2 : ∀ d, (n.inn.map boxS).getD k d = boxS (n.ib k) := fun d => getIn boxS n.inn k d box0 (by omega)
  have hr3 : ∀ d, (n.outs.map outE).getD k d = outE (n.oh k) := fun d => getIn outE n.outs k d out0 (by omega)
  have hr4 : ∀ d, (n.inns.map innE).getD k d = innE (n.ih k) := fun d => getIn innE n.inns k d inn0 (by omega)
  have hr5 : ∀ d, (p.ways.map wayS).getD k d = wayS (p.way k) := fun d => getIn wayS p.ways k d w0 hk
  have hr6 : ∀ d, (p.cells.map cellS).getD (p.way k).1.toNat d = cellS (p.cell (p.way k).1.toNat) := fun d => getIn cellS p.cells _ d c0 (by omega)
  have hr7 : ∀ d, (p.cells.map cellS).getD (p.way k).2.1.toNat d = cellS (p.cell (p.way k).2.1.toNat) := fun d => getIn cellS p.cells _ d c0 (by omega)
  have hg1 : ∀ d, (n.heard.1.map intE).getD (ends p k).toNat d = intE (n.heard.1.getD (ends p k).toNat 0) := fun d => getIn intE n.heard.1 _ d 0 (by omega)
  have hbeg : (p.cell (p.way k).1.toNat).1 = begins p k := by unfold begins; rw [Int.toNat_natCast]
  have hend : (p.cell (p.way k).2.1.toNat).1 = ends p k := by unfold ends; rw [Int.toNat_natCast]
  have hdep : (boxN (p.way k).2.2.1).1 = (p.way k).2.2.1 := by
    unfold boxN
    rw [decide_eq_false (by omega), decide_eq_false (by omega)]; rfl
  have hz1 : decide (((n.ob k).2.1.length : Int) = 0) = !decide (0 < ((n.ob k).2.1.length : Int)) := by rw [Bool.eq_iff_iff]; simp; try omega
  have hz2 : decide (((n.ib k).2.1.length : Int) = 0) = !decide (0 < ((n.ib k).2.1.length : Int)) := by rw [Bool.eq_iff_iff]; simp; try omega
  have hz3 : (!decide (n.heard.1.getD (ends p k).toNat 0 < (n.oh k).2.1)) = decide ((n.oh k).2.1 ≤ n.heard.1.getD (ends p k).toNat 0) := by rw [Bool.eq_iff_iff]; simp
  have ho1 : outB (n.oh k) = false → outEq (n.oh k) (outN 1) = false := fun h => by
    cases e : outEq (n.oh k) (outN 1) with
    | false => rfl
    | true =>
      exfalso
      unfold outEq outN at e; unfold outB at h
      simp at e h
      omega
  have hi1 : innB (n.ih k) = false → innEq (n.ih k) inn0 = false := fun h => by
    cases e : innEq (n.ih k) inn0 with
    | false => rfl
    | true =>
      exfalso
      unfold innEq at e; unfold innB at h
      simp at e h
      omega
  have hat : waysAt p n a k = (boxB (n.ob k) (p.way k) (n.up && decide (begins p k = a)) && (boxB (n.ib k) (p.way k) (n.up && decide (ends p k = a)) && halvesB p n a k)) := rfl
  have hoe : (decide ((n.oh k).1 = (outN 1).1) && (decide ((n.oh k).2.1 = (outN 1).2.1) && (decide ((n.oh k).2.2.1 = (outN 1).2.2.1) && decide ((n.oh k).2.2.2.1 = (outN 1).2.2.2.1)))) = outEq (n.oh k) (outN 1) := rfl
  have hie : (decide ((n.ih k).1 = 0) && (decide ((n.ih k).2.1 = 0) && decide ((n.ih k).2.2.1 = 0))) = innEq (n.ih k) inn0 := rfl
  simp only [boxO] at bn
  simp only [boxS] at bo hr1 hr2
  simp only [outE] at oo op hr3
  simp only [innE] at io hr4
  simp only [wayS] at hr5
  simp only [cellS] at hr6 hr7
  simp only [hr5, Int.toNat_natCast, hT, eA, Nat.beq, List.toArray, reduceAdd, reduceLT, reduceLeDiff, reduceToNat]
  repeat' first | (with_reducible refine And.intro ?_ ?_) | omega
  refine Fun.plain (bn (p.way k).2.2.1) rfl rfl rfl rfl ?_; simp only [hT, eN, ↓If_lit, Int.reduceLT, Int.reduceLE, eA, Nat.beq, List.toArray, reduceAdd, reduceLT, reduceLeDiff, reduceToNat]; (try unfold lim); repeat first | ((with_reducible refine And.intro ?_ ?_); (first | omega | exact ⟨by omega, by omega⟩ | rfl)) | intro _
  cases hup : n.up
  · cases hdf : decide (begins p k = ends p k)
    all_goals repeat' first
      | (refine If.mk (fun q => ?_) (fun q => ?_))
      | (show In64 _; exact ⟨by omega, by omega⟩)
      | (with_reducible refine And.intro ?_ ?_)
      | omega
      | (refine Fun.pcall (bo (n.ob k)) (by exact rfl) rfl rfl rfl rfl ?_; simp only [hT, hT, hup, hdf, hg1, hbeg, hend, hr1, hr2, hr3, hr4, hr5, hr6, hr7, hoe, hie, hdep, Bool.not_true, Bool.not_false, decide_true, intE, Int.toNat_natCast, ↓If_lit, eT, ↓If_lit, reduceSub, reduceCtorEq, eA, Nat.beq, List.toArray, reduceAdd, reduceLT, reduceLeDiff, reduceToNat])
      | (refine Fun.pcall (bo (n.ib k)) (by exact rfl) rfl rfl rfl rfl ?_; simp only [hT, hT, hup, hdf, hg1, hbeg, hend, hr1, hr2, hr3, hr4, hr5, hr6, hr7, hoe, hie, hdep, Bool.not_true, Bool.not_false, decide_true, intE, Int.toNat_natCast, ↓If_lit, eT, ↓If_lit, reduceSub, reduceCtorEq, eA, Nat.beq, List.toArray, reduceAdd, reduceLT, reduceLeDiff, reduceToNat])
      | (refine Fun.pcall (oo) (by exact rfl) rfl rfl rfl rfl ?_; simp only [hT, hT, hup, hdf, hg1, hbeg, hend, hr1, hr2, hr3, hr4, hr5, hr6, hr7, hoe, hie, hdep, Bool.not_true, Bool.not_false, decide_true, intE, Int.toNat_natCast, ↓If_lit, eT, ↓If_lit, reduceSub, reduceCtorEq, eA, Nat.beq, List.toArray, reduceAdd, reduceLT, reduceLeDiff, reduceToNat])
      | (refine Fun.pcall (io) (by exact rfl) rfl rfl rfl rfl ?_; simp only [hT, hT, hup, hdf, hg1, hbeg, hend, hr1, hr2, hr3, hr4, hr5, hr6, hr7, hoe, hie, hdep, Bool.not_true, Bool.not_false, decide_true, intE, Int.toNat_natCast, ↓If_lit, eT, ↓If_lit, reduceSub, reduceCtorEq, eA, Nat.beq, List.toArray, reduceAdd, reduceLT, reduceLeDiff, reduceToNat])
      | (refine Fun.plain op rfl rfl rfl rfl ?_; simp only [hT, hup, hdf, hg1, hbeg, hend, hr1, hr2, hr3, hr4, hr5, hr6, hr7, hoe, hie, hdep, Bool.not_true, Bool.not_false, decide_true, intE, ↓If_lit, eT, ↓If_lit, PCall, reduceSub, reduceCtorEq, eA, Nat.beq, List.toArray, reduceAdd, reduceLT, reduceLeDiff, reduceToNat])
      | (show wpc P _ (Code.region 3 _ _) _ _; refine wpc_read [0, 1, 2, 3, 4, 5, 6, 7, 8, 9, 10, 11, 12, 13, 14, 15, 16, 17, 18, 19, 20, 21, 22, 23, 24, 25, 26, 27, 28, 29, 30, 31, 32, 33, 34, 35, 36, 37, 38, 39, 40, 41, 42, 43, 44, 45, 46, 47, 48, 49, 50, 51, 52, 53, 54, 55] hm (by kernel_rfl) ?_; simp only [hT, hup, hdf, hg1, hbeg, hend, hr1, hr2, hr3, hr4, hr5, hr6, hr7, hoe, hie, hdep, Bool.not_true, Bool.not_false, decide_true, intE, ↓If_lit, eT, ↓If_lit, reduceSub, reduceCtorEq, eA, Nat.beq, List.toArray, reduceAdd, reduceLT, reduceLeDiff, reduceToNat])
      | (show wpc P _ (Code.region 7 _ _) _ _; refine wpc_read [0, 1, 2, 3, 4, 5, 6, 7, 8, 9, 10, 11, 12, 13, 14, 15] hm (by kernel_rfl) ?_; simp only [hT, hup, hdf, hg1, hbeg, hend, hr1, hr2, hr3, hr4, hr5, hr6, hr7, hoe, hie, hdep, Bool.not_true, Bool.not_false, decide_true, intE, ↓If_lit, eT, ↓If_lit, reduceSub, reduceCtorEq, eA, Nat.beq, List.toArray, reduceAdd, reduceLT, reduceLeDiff, reduceToNat])
      | (show wpc P _ (Code.region 12 _ _) _ _; refine wpc_read [0, 1, 2, 3, 4, 5, 6, 7, 8, 9, 10, 11, 12, 13, 14, 15, 16, 17, 18, 19, 20, 21, 22, 23, 24, 25, 26, 27, 28, 29, 30, 31, 32, 33, 34, 35, 36, 37, 38, 39, 40, 41, 42, 43, 44, 45] hm (by kernel_rfl) ?_; simp only [hT, hup, hdf, hg1, hbeg, hend, hr1, hr2, hr3, hr4, hr5, hr6, hr7, hoe, hie, hdep, Bool.not_true, Bool.not_false, decide_true, intE, ↓If_lit, eT, ↓If_lit, reduceSub, reduceCtorEq, eA, Nat.beq, List.toArray, reduceAdd, reduceLT, reduceLeDiff, reduceToNat])
      | (show wpc P _ (Code.region 10 _ _) _ _; refine wpc_draw (.take 0 (.take 1 (.take 2 (.take 3 (.take 4 (.take 5 (.take 6 (.take 7 (.take 9 (.alt 8 (.take 10 (.take 11 (.alt 12 (.take 13 (.take 14 (.take 15 (.take 16 (.take 17 (.take 18 (.take 19 (.take 20 (.take 21 (.take 22 (.take 23 (.take 25 (.take 28 (.alt 24 (.take 26 (.take 27 (.take 29 (.take 30 (.take 31 .done))))) .stop)))))))))))))) .stop))) (.alt 12 (.alt 8 (.take 10 (.take 11 (.take 13 (.take 14 (.take 15 (.take 16 (.take 17 (.take 18 (.take 19 (.take 20 (.take 21 (.take 22 (.take 23 (.take 25 (.take 28 (.alt 24 (.take 26 (.take 27 (.take 29 (.take 30 (.take 31 .done))))) .stop)))))))))))))))) .stop) .stop))))))))))) hm (by kernel_rfl) ?_; simp only [hT, hup, hdf, hg1, hbeg, hend, hr1, hr2, hr3, hr4, hr5, hr6, hr7, hoe, hie, hdep, Bool.not_true, Bool.not_false, decide_true, intE, ↓If_lit, eT, ↓If_lit, PCall, reduceSub, reduceCtorEq, eA, Nat.beq, List.toArray, reduceAdd, reduceLT, reduceLeDiff, reduceToNat])
      | (intro _)
    all_goals ((try simp only [Bool.not_eq_true', Bool.not_eq_false'] at *); rw [hat]; unfold boxB halvesB halfO halfI farB; simp only [*, cond_true, cond_false, eQ]; done)
  · cases hdb : decide (begins p k = a) <;> cases hde : decide (ends p k = a) <;> cases hdf : decide (begins p k = ends p k)
    all_goals try (exfalso; simp only [decide_eq_true_eq, decide_eq_false_iff_not] at hdb hde hdf; omega; done)
    all_goals repeat' first
      | (refine If.mk (fun q => ?_) (fun q => ?_))
      | (show In64 _; exact ⟨by omega, by omega⟩)
      | (with_reducible refine And.intro ?_ ?_)
      | omega
      | (refine Fun.pcall (bo (n.ob k)) (by exact rfl) rfl rfl rfl rfl ?_; simp only [hT, hT, hup, hdf, hg1, hbeg, hend, hr1, hr2, hr3, hr4, hr5, hr6, hr7, hoe, hie, hdep, Bool.not_true, Bool.not_false, decide_true, intE, hdb, hde, Int.toNat_natCast, ↓If_lit, eT, ↓If_lit, reduceSub, reduceCtorEq, eA, Nat.beq, List.toArray, reduceAdd, reduceLT, reduceLeDiff, reduceToNat])
      | (refine Fun.pcall (bo (n.ib k)) (by exact rfl) rfl rfl rfl rfl ?_; simp only [hT, hT, hup, hdf, hg1, hbeg, hend, hr1, hr2, hr3, hr4, hr5, hr6, hr7, hoe, hie, hdep, Bool.not_true, Bool.not_false, decide_true, intE, hdb, hde, Int.toNat_natCast, ↓If_lit, eT, ↓If_lit, reduceSub, reduceCtorEq, eA, Nat.beq, List.toArray, reduceAdd, reduceLT, reduceLeDiff, reduceToNat])
      | (refine Fun.pcall (oo) (by exact rfl) rfl rfl rfl rfl ?_; simp only [hT, hT, hup, hdf, hg1, hbeg, hend, hr1, hr2, hr3, hr4, hr5, hr6, hr7, hoe, hie, hdep, Bool.not_true, Bool.not_false, decide_true, intE, hdb, hde, Int.toNat_natCast, ↓If_lit, eT, ↓If_lit, reduceSub, reduceCtorEq, eA, Nat.beq, List.toArray, reduceAdd, reduceLT, reduceLeDiff, reduceToNat])
      | (refine Fun.pcall (io) (by exact rfl) rfl rfl rfl rfl ?_; simp only [hT, hT, hup, hdf, hg1, hbeg, hend, hr1, hr2, hr3, hr4, hr5, hr6, hr7, hoe, hie, hdep, Bool.not_true, Bool.not_false, decide_true, intE, hdb, hde, Int.toNat_natCast, ↓If_lit, eT, ↓If_lit, reduceSub, reduceCtorEq, eA, Nat.beq, List.toArray, reduceAdd, reduceLT, reduceLeDiff, reduceToNat])
      | (refine Fun.plain op rfl rfl rfl rfl ?_; simp only [hT, hup, hdf, hg1, hbeg, hend, hr1, hr2, hr3, hr4, hr5, hr6, hr7, hoe, hie, hdep, Bool.not_true, Bool.not_false, decide_true, intE, hdb, hde, ↓If_lit, eT, ↓If_lit, PCall, reduceSub, reduceCtorEq, eA, Nat.beq, List.toArray, reduceAdd, reduceLT, reduceLeDiff, reduceToNat])
      | (show wpc P _ (Code.region 3 _ _) _ _; refine wpc_read [0, 1, 2, 3, 4, 5, 6, 7, 8, 9, 10, 11, 12, 13, 14, 15, 16, 17, 18, 19, 20, 21, 22, 23, 24, 25, 26, 27, 28, 29, 30, 31, 32, 33, 34, 35, 36, 37, 38, 39, 40, 41, 42, 43, 44, 45, 46, 47, 48, 49, 50, 51, 52, 53, 54, 55] hm (by kernel_rfl) ?_; simp only [hT, hup, hdf, hg1, hbeg, hend, hr1, hr2, hr3, hr4, hr5, hr6, hr7, hoe, hie, hdep, Bool.not_true, Bool.not_false, decide_true, intE, hdb, hde, ↓If_lit, eT, ↓If_lit, reduceSub, reduceCtorEq, eA, Nat.beq, List.toArray, reduceAdd, reduceLT, reduceLeDiff, reduceToNat])
      | (show wpc P _ (Code.region 7 _ _) _ _; refine wpc_read [0, 1, 2, 3, 4, 5, 6, 7, 8, 9, 10, 11, 12, 13, 14, 15] hm (by kernel_rfl) ?_; simp only [hT, hup, hdf, hg1, hbeg, hend, hr1, hr2, hr3, hr4, hr5, hr6, hr7, hoe, hie, hdep, Bool.not_true, Bool.not_false, decide_true, intE, hdb, hde, ↓If_lit, eT, ↓If_lit, reduceSub, reduceCtorEq, eA, Nat.beq, List.toArray, reduceAdd, reduceLT, reduceLeDiff, reduceToNat])
      | (show wpc P _ (Code.region 12 _ _) _ _; refine wpc_read [0, 1, 2, 3, 4, 5, 6, 7, 8, 9, 10, 11, 12, 13, 14, 15, 16, 17, 18, 19, 20, 21, 22, 23, 24, 25, 26, 27, 28, 29, 30, 31, 32, 33, 34, 35, 36, 37, 38, 39, 40, 41, 42, 43, 44, 45] hm (by kernel_rfl) ?_; simp only [hT, hup, hdf, hg1, hbeg, hend, hr1, hr2, hr3, hr4, hr5, hr6, hr7, hoe, hie, hdep, Bool.not_true, Bool.not_false, decide_true, intE, hdb, hde, ↓If_lit, eT, ↓If_lit, reduceSub, reduceCtorEq, eA, Nat.beq, List.toArray, reduceAdd, reduceLT, reduceLeDiff, reduceToNat])
      | (show wpc P _ (Code.region 10 _ _) _ _; refine wpc_draw (.take 0 (.take 1 (.take 2 (.take 3 (.take 4 (.take 5 (.take 6 (.take 7 (.take 9 (.alt 8 (.take 10 (.take 11 (.alt 12 (.take 13 (.take 14 (.take 15 (.take 16 (.take 17 (.take 18 (.take 19 (.take 20 (.take 21 (.take 22 (.take 23 (.take 25 (.take 28 (.alt 24 (.take 26 (.take 27 (.take 29 (.take 30 (.take 31 .done))))) .stop)))))))))))))) .stop))) (.alt 12 (.alt 8 (.take 10 (.take 11 (.take 13 (.take 14 (.take 15 (.take 16 (.take 17 (.take 18 (.take 19 (.take 20 (.take 21 (.take 22 (.take 23 (.take 25 (.take 28 (.alt 24 (.take 26 (.take 27 (.take 29 (.take 30 (.take 31 .done))))) .stop)))))))))))))))) .stop) .stop))))))))))) hm (by kernel_rfl) ?_; simp only [hT, hup, hdf, hg1, hbeg, hend, hr1, hr2, hr3, hr4, hr5, hr6, hr7, hoe, hie, hdep, Bool.not_true, Bool.not_false, decide_true, intE, hdb, hde, ↓If_lit, eT, ↓If_lit, PCall, reduceSub, reduceCtorEq, eA, Nat.beq, List.toArray, reduceAdd, reduceLT, reduceLeDiff, reduceToNat])
      | (intro _)
    all_goals ((try simp only [Bool.not_eq_true', Bool.not_eq_false'] at *); rw [hat]; unfold boxB halvesB halfO halfI farB; simp only [*, cond_true, cond_false, eQ]; done)
end Go.Proofs.YtjlmfcddbcoimaaGreat.C
