/- A node that rises, by both texts. -/
import Derived.Test.YtjlmfcddbcoimaaGreatCCopN
import Derived.Test.YtjlmfcddbcoimaaGreatCNodK
import Derived.Test.YtjlmfcddbcoimaaGreatCNodF
set_option maxRecDepth 100000
set_option maxHeartbeats 4000000
set_option linter.unusedSimpArgs false
set_option linter.unusedVariables false
namespace Go.Proofs.YtjlmfcddbcoimaaGreat.C
open Go Go.Av Go.Proofs
def riseO (p : VPln) (b a : Int) (k : Nat) : List VOut := (List.range p.ways.length).map fun j => bif decide (j < k) && farB p j a then outN b else outN 1
def riseK (p : VPln) (b a : Int) (k : Nat) : VNod := (true, b, 0, List.replicate p.cells.length celN, p.ways.map (fun w => boxN w.2.2.1), p.ways.map (fun w => boxN w.2.2.1), riseO p b a k, p.ways.map (fun _ => inn0), hrdN p.1, ())
def riseN (p : VPln) (n : VNod) (a : Int) : VNod := bif n.up || decide (60000 ≤ n.boot) then n else riseK p (n.boot + 1) a p.ways.length
def roseN (p : VPln) (n : VNod) (a : Int) : VNod := bif okN p n a then riseN p n a else nod0
theorem riseO_len (p : VPln) (b a : Int) (k : Nat) : (riseO p b a k).length = p.ways.length := by unfold riseO; rw [List.length_map, List.length_range]
theorem riseO_zero (p : VPln) (b a : Int) : p.ways.map (fun _ => outN 1) = riseO p b a 0 := by
  unfold riseO
  refine List.ext_getElem (by simp) fun i h1 h2 => ?_
  simp
theorem riseO_set (p : VPln) (b a : Int) (k : Nat) (hk : k < p.ways.length) (hf : farB p k a = true) : ((riseO p b a k).map outE).set k (outE (outN b)) = (riseO p b a (k + 1)).map outE := by
  rw [← List.map_set]
  congr 1
  refine List.ext_getElem (by simp [riseO_len]) fun i h1 h2 => ?_
  unfold riseO at *
  rw [List.getElem_set]
  simp only [List.getElem_map, List.getElem_range]
  split
  · rename_i e; subst e; rw [hf]; simp
  · rename_i e
    have : decide (i < k + 1) = decide (i < k) := by rw [decide_eq_decide]; omega
    rw [this]
theorem riseO_skip (p : VPln) (b a : Int) (k : Nat) (hf : farB p k a = false) : riseO p b a (k + 1) = riseO p b a k := by
  unfold riseO
  refine List.map_congr_left fun i _ => ?_
  by_cases e : i = k
  · subst e; rw [hf]; simp
  · have : decide (i < k + 1) = decide (i < k) := by rw [decide_eq_decide]; omega
    rw [this]
theorem okN_res {p : VPln} {n : VNod} {a : Int} (h : okN p n a = true) : res p = none ∧ 0 ≤ n.boot ∧ n.boot ≤ 60000 := by
  unfold okN goodB lifeB lifeHd at h
  simp only [Bool.and_eq_true, Bool.not_eq_true', Bool.or_eq_false_iff, decide_eq_false_iff_not] at h
  exact ⟨by simpa using h.1, by have := h.2.2.1.1.1; omega, by have := h.2.2.1.1.2.1; omega⟩
theorem TY_nodRiseI1 {P : Program} (hP : P = Tryz.prog) : (((P.follows .mixedOrders = true) ∧ ((fldT P 37 0 = some ((0, (false, 1)))) ∧ (tyT P 4 = some ((false, 1))))) ∧ ((fldT P 37 1 = some ((1, (false, 1)))) ∧ ((tyT P 3 = some ((false, 1))) ∧ (tyT P 37 = some ((true, 10)))))) ∧ (((fldT P 43 4 = some ((4, (false, 1)))) ∧ ((tyT P 40 = some ((false, 1))) ∧ (lkT P 40 = 1))) ∧ (((fldT P 37 6 = some ((6, (false, 1)))) ∧ (tyT P 31 = some ((false, 1)))) ∧ ((elT P 31 = some ((true, (4, 32)))) ∧ (tyT P 201 = some ((true, 4)))))) := by subst hP; refine ⟨⟨⟨?_, ⟨?_, ?_⟩⟩, ⟨?_, ⟨?_, ?_⟩⟩⟩, ⟨⟨?_, ⟨?_, ?_⟩⟩, ⟨⟨?_, ?_⟩, ⟨?_, ?_⟩⟩⟩⟩ <;> kernel_rfl
theorem nodRiseI1 {P : Program} [Known P] (hP : P = Tryz.prog) (p : VPln) (hs : Sz p) (n : VNod) (a : Int) (ok : okN p n a = true) : FunM P 101 2 [.cp 0 0 0, .cp 1 0 0, .int .i64 a] [(0, ⟨7, [plnS p], [], true⟩), (1, ⟨10, [nodO n], [], true⟩)] (.tup []) [(0, ⟨7, [plnS p], [], true⟩), (1, ⟨10, [nodO (riseN p n a)], [], true⟩)] := by
  refine fun_ofM (fn := Tryz.f101) (hP ▸ Tryz.func101) (by kernel_rfl) (by kernel_rfl) (by kernel_rfl) (by kernel_rfl) ?_
  have hT := TY_nodRiseI1 hP
  have hm : P.follows .mixedOrders = true := by subst hP; kernel_rfl
  have bg := nodBegin hP p hs (n.boot + 1)
  have fa := fun (k : Nat) h1 h2 h3 => farI hP p k a h1 h2 h3
  have op := outOpenI hP (n.boot + 1)
  have hna := nod_na (begN p (n.boot + 1))
  clear hP
  intro hl
  clear hl
  simp only [plnS, nodO] at bg
  simp only [nodO] at hna
  simp only [outE] at op
  simp only [plnS, nodO, Tryz.f101, hT, eA, Nat.beq, List.toArray, Nat.reduceAdd, Nat.reduceLT, Nat.reduceLeDiff, Int.reduceToNat]
  have hwl : p.ways.length ≤ 140737488355328 := by have := hs.w; omega
  obtain ⟨hbz, hbo⟩ := (okN_res ok).2
  have hr := (okN_res ok).1
  cases hup : (n.up || decide (60000 ≤ n.boot))
  · have hrise : riseN p n a = riseK p (n.boot + 1) a p.ways.length := by unfold riseN; rw [hup]; rfl
    rw [hrise]
    simp only [Bool.or_eq_false_iff] at hup
    obtain ⟨hu1, hu2⟩ := hup
    have hb1 : ¬ 60000 ≤ n.boot := by simpa using hu2
    simp only [hu1, hu2, hT, ↓If_lit, eA, Nat.beq, List.toArray, Nat.reduceAdd, Nat.reduceLT, Nat.reduceLeDiff, Int.reduceToNat]
    repeat' first | (with_reducible refine And.intro ?_ ?_) | (show In64 _; exact ⟨by omega, by omega⟩) | omega | intro _
    refine Fun.lent bg (by rfl) (by rfl) rfl rfl hna ?_; simp only [hT, nneg, beq_self_eq_true, decide_true, decide_false, ↓If_lit, Int.cast_ofNat_Int, Int.reduceLT, Int.reduceLE, eA, Nat.beq, List.toArray, Nat.reduceAdd, Nat.reduceLT, Nat.reduceLeDiff, Int.reduceToNat]; (try unfold lim); repeat first | ((with_reducible refine And.intro ?_ ?_); (first | omega | exact ⟨by omega, by omega⟩ | rfl)) | intro _
    have hz : (begN p (n.boot + 1)).outs = riseO p (n.boot + 1) a 0 := riseO_zero p (n.boot + 1) a
    rw [hz]
    refine wpc_loop {k : Nat // k ≤ p.ways.length} (fun k => ⟨[(0, .cp 0 0 0), (1, .cp 1 0 0), (2, .int .i64 a), (34, .int .i64 p.ways.length), (35, .int .i64 k.1)], [(1, ⟨10, [nodO (riseK p (n.boot + 1) a k.1)], [], true⟩), (0, ⟨7, [plnS p], [], true⟩)], 2⟩) (fun k => p.ways.length - k.1) ⟨0, Nat.zero_le _⟩ (Le.of [] (Nat.le_refl _) ?_ ?_ ?_) ?_
    · simp only [eL, eH, eG, leO, Nat.beq, Nat.reduceLT]
    · simp only [plnS, nodO, riseK, eL, eH, eG, leO, Nat.beq, Nat.reduceLT]; first | done | rfl | trivial | simp | omega
    · simp only [plnS, nodO, riseK, eL, eH, eG, leO, Nat.beq, Nat.reduceLT]; exact ⟨rfl, rfl, rfl, rfl, rfl, rfl, rfl, rfl⟩
    · rintro ⟨k, hk⟩
      by_cases hlt : k < p.ways.length
      · have hf : decide ((k : Int) < p.ways.length) = true := decide_eq_true (by omega)
        have hwk : has (k : Int) p.ways.length = true := by unfold has; simp; omega
        obtain ⟨w1, w2⟩ := res_ways hr k hlt
        have fa := fa k hwk (by rw [Int.toNat_natCast]; exact w1) (by rw [Int.toNat_natCast]; exact w2)
        have hset := riseO_set p (n.boot + 1) a k hlt
        have hskip := riseO_skip p (n.boot + 1) a k
        have hlen : ((riseO p (n.boot + 1) a k).map outE).length = p.ways.length := by rw [List.length_map, riseO_len]
        have hlen2 := riseO_len p (n.boot + 1) a k
        generalize farB p k a = fb at *
        simp only [plnS] at fa
        simp only [hT, hf, plnS, nodO, riseK, Int.toNat_natCast, ↓If_lit, eA, Nat.beq, List.toArray, Nat.reduceAdd, Nat.reduceLT, Nat.reduceLeDiff, Int.reduceToNat]
        repeat' first | (with_reducible refine And.intro ?_ ?_) | omega | intro _
        refine Fun.lent fa (by rfl) (by rfl) rfl rfl rfl ?_
        simp only [hT, ↓If_lit, eA, Nat.beq, List.toArray, Nat.reduceAdd, Nat.reduceLT, Nat.reduceLeDiff, Int.reduceToNat]
        refine If.mk (fun q => ?_) (fun q => ?_)
        · have hset := hset q
          simp only [outE] at hset
          refine wpc_draw (.take 0 (.take 1 (.take 2 (.take 4 (.take 5 (.take 6 (.take 7 (.alt 3 (.alt 8 (.alt 9 (.alt 10 (.alt 11 .done .stop) .stop) .stop) .stop) (.alt 8 (.alt 3 (.alt 9 (.alt 10 (.alt 11 .done .stop) .stop) .stop) (.alt 9 (.alt 3 (.alt 10 (.alt 11 .done .stop) .stop) .stop) .stop)) .stop))))))))) hm (by kernel_rfl) ?_
          simp only [hT, hlen2, Int.toNat_natCast, ↓If_lit, eT, ↓If_lit, PCall, Nat.reduceSub, reduceCtorEq, eA, Nat.beq, List.toArray, Nat.reduceAdd, Nat.reduceLT, Nat.reduceLeDiff, Int.reduceToNat]
          repeat' first
            | (with_reducible refine And.intro ?_ ?_)
            | omega
            | (refine Fun.plain op rfl rfl rfl rfl ?_; simp only [hT, hlen2, hset, List.length_map, Int.toNat_natCast, ↓If_lit, eT, ↓If_lit, PCall, Nat.reduceSub, reduceCtorEq, eA, Nat.beq, List.toArray, Nat.reduceAdd, Nat.reduceLT, Nat.reduceLeDiff, Int.reduceToNat])
            | (show In64 _; exact ⟨by omega, by omega⟩)
            | (refine ⟨⟨k + 1, hlt⟩, by simp only; omega, ?_⟩; refine Le.trans (Le.abs 1 0 _ (by simp only; omega) (by rfl) rfl (by simp)) ?_; simp only [absRow, hset, plnS, nodO, riseK, eA, Nat.beq, List.toArray, Nat.reduceAdd, Nat.reduceLT, Nat.reduceLeDiff, Int.reduceToNat]; refine Le.of [] (Nat.le_refl _) ?_ ?_ ?_ <;> first | (simp only [plnS, nodO, riseK, eL, eH, eG, leO, Nat.beq, Nat.reduceLT]; done) | (simp only [plnS, nodO, riseK, eL, eH, eG, leO, Nat.beq, Nat.reduceLT]; first | done | rfl | omega | trivial))
            | rfl
            | trivial
        · have hskip := hskip q
          refine ⟨show In64 _ from ⟨by omega, by omega⟩, ⟨k + 1, hlt⟩, by simp only; omega, Le.of [] (Nat.le_refl _) ?_ ?_ ?_⟩
          · simp only [eL, eH, eG, leO, Nat.beq, Nat.reduceLT]
          · simp only [eL, eH, eG, leO, Nat.beq, Nat.reduceLT]; first | done | omega
          · simp only [hskip, plnS, nodO, riseK, eL, eH, eG, leO, Nat.beq, Nat.reduceLT]
      · obtain rfl : k = p.ways.length := by omega
        have hf : decide ((p.ways.length : Int) < p.ways.length) = false := decide_eq_false (by omega)
        simp only [hT, hf, plnS, nodO, riseK, ↓If_lit, eA, Nat.beq, List.toArray, Nat.reduceAdd, Nat.reduceLT, Nat.reduceLeDiff, Int.reduceToNat]
        repeat' first | (with_reducible refine And.intro ?_ ?_) | trivial | rfl | intro _
  · have hrise : riseN p n a = n := by unfold riseN; rw [hup]; rfl
    rw [hrise]
    simp only [hT, ↓If_lit, eA, Nat.beq, List.toArray, Nat.reduceAdd, Nat.reduceLT, Nat.reduceLeDiff, Int.reduceToNat]
    cases hu1 : n.up
    · rw [hu1, Bool.false_or] at hup
      simp only [hup, hu1, hT, ↓If_lit, eA, Nat.beq, List.toArray, Nat.reduceAdd, Nat.reduceLT, Nat.reduceLeDiff, Int.reduceToNat]
      repeat' first | (with_reducible refine And.intro ?_ ?_) | trivial | rfl | intro _
    · simp only [hu1, hT, ↓If_lit, eA, Nat.beq, List.toArray, Nat.reduceAdd, Nat.reduceLT, Nat.reduceLeDiff, Int.reduceToNat]
      repeat' first | (with_reducible refine And.intro ?_ ?_) | trivial | rfl | intro _
theorem TY_nodRiseI {P : Program} (hP : P = Tryz.prog) : ((zeroT P 37 = some (((.bool false) :: ((.int .i64 0) :: ((.int .i64 0) :: (.nils :: (.nils :: (.nils :: (.nils :: (.nils :: (.nils :: (.nils :: [])))))))))))) ∧ (tyT P 43 = some ((true, 7)))) ∧ ((tyT P 37 = some ((true, 10))) ∧ (bldT P 37 = true)) := by subst hP; refine ⟨⟨?_, ?_⟩, ⟨?_, ?_⟩⟩ <;> kernel_rfl
theorem nodRiseI {P : Program} [Known P] (hP : P = Tryz.prog) (p : VPln) (hs : Sz p) (n : VNod) (hn : SzN n) (a : Int) : Fun P 27 [.agg (plnS p), .agg (nodS n), .int .i64 a] (.agg (nodO (roseN p n a))) := by
  refine fun_of (fn := Tryz.f27) (hP ▸ Tryz.func27) (by kernel_rfl) (by kernel_rfl) (by kernel_rfl) (by kernel_rfl) ?_
  have hT := TY_nodRiseI hP
  have oi := nodOkI hP p hs n hn a
  have cp := nodCopyI hP n hn
  have ri := fun h => nodRiseI1 hP p hs n a h
  clear hP
  intro hl
  clear hl
  simp only [plnS, nodS, Tryz.f27, hT, eA, Nat.beq, List.toArray, Nat.reduceAdd, Nat.reduceLT, Nat.reduceLeDiff, Int.reduceToNat]
  simp only [plnS, nodS] at oi
  simp only [nodS, nodO] at cp
  unfold roseN
  refine Fun.plain (oi) rfl rfl rfl rfl ?_; simp only [hT, nneg, beq_self_eq_true, decide_true, decide_false, ↓If_lit, Int.cast_ofNat_Int, Int.reduceLT, Int.reduceLE, eA, Nat.beq, List.toArray, Nat.reduceAdd, Nat.reduceLT, Nat.reduceLeDiff, Int.reduceToNat]; (try unfold lim); repeat first | ((with_reducible refine And.intro ?_ ?_); (first | omega | exact ⟨by omega, by omega⟩ | rfl)) | intro _
  refine ⟨fun q => ?_, fun q => ?_⟩
  · have q : okN p n a = false := by simpa using q
    rw [q]
    exact nod0_sub
  · have q : okN p n a = true := by simpa using q
    rw [q]
    simp only [cond_true]
    have ri := ri q
    simp only [plnS, nodO] at ri
    refine Fun.plain (cp) rfl rfl rfl rfl ?_; simp only [hT, nneg, beq_self_eq_true, decide_true, decide_false, ↓If_lit, Int.cast_ofNat_Int, Int.reduceLT, Int.reduceLE, eA, Nat.beq, List.toArray, Nat.reduceAdd, Nat.reduceLT, Nat.reduceLeDiff, Int.reduceToNat]; (try unfold lim); repeat first | ((with_reducible refine And.intro ?_ ?_); (first | omega | exact ⟨by omega, by omega⟩ | rfl)) | intro _
    refine FunM.lend (ri) ([(0, some 0), (1, some 1)]) 0 (by simp only [eD, Int.cast_ofNat_Int, Nat.beq, true_and, and_true, Nat.reduceLT, Nat.lt_add_one, Nat.zero_lt_one, Nat.zero_le, Nat.zero_add, Nat.add_zero, Nat.reduceAdd, Nat.reduceSub, eq_self, and_self, AV.nb]) (by simp only [eD, Int.cast_ofNat_Int, Nat.beq, true_and, and_true, Nat.reduceLT, Nat.lt_add_one, Nat.zero_lt_one, Nat.zero_le, Nat.zero_add, Nat.add_zero, Nat.reduceAdd, Nat.reduceSub, eq_self, and_self, AV.nb]) (by simp only [eD, Int.cast_ofNat_Int, Nat.beq, true_and, and_true, Nat.reduceLT, Nat.lt_add_one, Nat.zero_lt_one, Nat.zero_le, Nat.zero_add, Nat.add_zero, Nat.reduceAdd, Nat.reduceSub, eq_self, and_self, AV.nb]) (by simp only [eD, Int.cast_ofNat_Int, Nat.beq, true_and, and_true, Nat.reduceLT, Nat.lt_add_one, Nat.zero_lt_one, Nat.zero_le, Nat.zero_add, Nat.add_zero, Nat.reduceAdd, Nat.reduceSub, eq_self, and_self, AV.nb]) (by simp only [eD, Int.cast_ofNat_Int, Nat.beq, true_and, and_true, Nat.reduceLT, Nat.lt_add_one, Nat.zero_lt_one, Nat.zero_le, Nat.zero_add, Nat.add_zero, Nat.reduceAdd, Nat.reduceSub, eq_self, and_self, AV.nb]) (by simp only [eD, Int.cast_ofNat_Int, Nat.beq, true_and, and_true, Nat.reduceLT, Nat.lt_add_one, Nat.zero_lt_one, Nat.zero_le, Nat.zero_add, Nat.add_zero, Nat.reduceAdd, Nat.reduceSub, eq_self, and_self, AV.nb]) rfl ?_; simp only [hT, nneg, decide_true, decide_false, ↓If_lit, Int.reduceLT, Int.reduceLE, eD, Int.cast_ofNat_Int, Nat.beq, true_and, and_true, Nat.reduceLT, Nat.lt_add_one, Nat.zero_lt_one, Nat.zero_le, Nat.zero_add, Nat.add_zero, Nat.reduceAdd, Nat.reduceSub, eq_self, and_self, AV.nb, eA, Nat.beq, List.toArray, Nat.reduceAdd, Nat.reduceLT, Nat.reduceLeDiff, Int.reduceToNat]
    repeat' first | (with_reducible refine And.intro ?_ ?_) | omega | exact nod_sub _ | rfl | trivial
theorem TY_nodRiseS1 {P : Program} (hP : P = Tryz.prog) : ((((P.follows .mixedOrders = true) ∧ (zeroT P 37 = some (((.bool false) :: ((.int .i64 0) :: ((.int .i64 0) :: (.nils :: (.nils :: (.nils :: (.nils :: (.nils :: (.nils :: (.nils :: []))))))))))))) ∧ ((fldT P 37 0 = some ((0, (false, 1)))) ∧ ((tyT P 4 = some ((false, 1))) ∧ (fldT P 37 1 = some ((1, (false, 1))))))) ∧ (((tyT P 3 = some ((false, 1))) ∧ ((tyT P 37 = some ((true, 10))) ∧ (tyT P 43 = some ((true, 7))))) ∧ ((fldT P 43 4 = some ((4, (false, 1)))) ∧ ((tyT P 40 = some ((false, 1))) ∧ (lkT P 40 = 1))))) ∧ ((((fldT P 43 3 = some ((3, (false, 1)))) ∧ (tyT P 39 = some ((false, 1)))) ∧ ((elT P 40 = some ((true, (5, 56)))) ∧ ((fldT P 160 0 = some ((0, (false, 1)))) ∧ (elT P 39 = some ((true, (5, 56))))))) ∧ (((fldT P 156 0 = some ((0, (false, 1)))) ∧ ((fldT P 160 1 = some ((1, (false, 1)))) ∧ (fldT P 37 6 = some ((6, (false, 1)))))) ∧ ((tyT P 31 = some ((false, 1))) ∧ ((elT P 31 = some ((true, (4, 32)))) ∧ (tyT P 201 = some ((true, 4))))))) := by subst hP; refine ⟨⟨⟨⟨?_, ?_⟩, ⟨?_, ⟨?_, ?_⟩⟩⟩, ⟨⟨?_, ⟨?_, ?_⟩⟩, ⟨?_, ⟨?_, ?_⟩⟩⟩⟩, ⟨⟨⟨?_, ?_⟩, ⟨?_, ⟨?_, ?_⟩⟩⟩, ⟨⟨?_, ⟨?_, ?_⟩⟩, ⟨?_, ⟨?_, ?_⟩⟩⟩⟩⟩ <;> kernel_rfl
theorem nodRiseS1 {P : Program} [Known P] (hP : P = Tryz.prog) (p : VPln) (hs : Sz p) (n : VNod) (hn : SzN n) (a : Int) (ok : okN p n a = true) : Fun P 99 [.agg (plnS p), .agg (nodS n), .int .i64 a] (.agg (nodO (riseN p n a))) := by
  refine fun_of (fn := Tryz.f99) (hP ▸ Tryz.func99) (by kernel_rfl) (by kernel_rfl) (by kernel_rfl) (by kernel_rfl) ?_
  have hT := TY_nodRiseS1 hP
  have hm : P.follows .mixedOrders = true := by subst hP; kernel_rfl
  have bg := blankS hP p hs (n.boot + 1)
  have cp := nodCopyS hP n hn
  have op := outOpenS hP (n.boot + 1)
  clear hP
  intro hl
  clear hl
  simp only [plnS, nodO] at bg
  simp only [nodS, nodO] at cp
  simp only [outE] at op
  simp only [plnS, nodS, nodO, Tryz.f99, hT, eA, Nat.beq, List.toArray, Nat.reduceAdd, Nat.reduceLT, Nat.reduceLeDiff, Int.reduceToNat]
  have hwl : p.ways.length ≤ 140737488355328 := by have := hs.w; omega
  obtain ⟨hbz, hbo⟩ := (okN_res ok).2
  have hr := (okN_res ok).1
  have hcmp : decide (n.boot = 60000) = decide (60000 ≤ n.boot) := by rw [decide_eq_decide]; omega
  cases hup : (n.up || decide (60000 ≤ n.boot))
  · have hrise : riseN p n a = riseK p (n.boot + 1) a p.ways.length := by unfold riseN; rw [hup]; rfl
    rw [hrise]
    simp only [Bool.or_eq_false_iff] at hup
    obtain ⟨hu1, hu2⟩ := hup
    have hb1 : ¬ 60000 ≤ n.boot := by simpa using hu2
    simp only [hu1, hcmp, hu2, hT, ↓If_lit, eA, Nat.beq, List.toArray, Nat.reduceAdd, Nat.reduceLT, Nat.reduceLeDiff, Int.reduceToNat]
    repeat' first | (with_reducible refine And.intro ?_ ?_) | (show In64 _; exact ⟨by omega, by omega⟩) | omega | intro _
    refine Fun.plain bg rfl rfl rfl rfl ?_; simp only [hT, nneg, beq_self_eq_true, decide_true, decide_false, ↓If_lit, Int.cast_ofNat_Int, Int.reduceLT, Int.reduceLE, eA, Nat.beq, List.toArray, Nat.reduceAdd, Nat.reduceLT, Nat.reduceLeDiff, Int.reduceToNat]; (try unfold lim); repeat first | ((with_reducible refine And.intro ?_ ?_); (first | omega | exact ⟨by omega, by omega⟩ | rfl)) | intro _
    have hz : (begN p (n.boot + 1)).outs = riseO p (n.boot + 1) a 0 := riseO_zero p (n.boot + 1) a
    rw [hz]
    refine wpc_loop {k : Nat // k ≤ p.ways.length} (fun k => ⟨[(2, .int .i64 a), (3, .cp 0 0 0), (6, .cp 2 0 0), (7, .cp 3 0 0), (8, .int .i64 k.1)], [(3, ⟨10, [nodO (riseK p (n.boot + 1) a k.1)], [], true⟩), (2, ⟨10, [nodZ0], [], true⟩), (0, ⟨7, [plnS p], [], true⟩)], 4⟩) (fun k => p.ways.length - k.1) ⟨0, Nat.zero_le _⟩ (Le.of [(3, some 10)] (Nat.zero_le _) ?_ ?_ ?_) ?_
    · simp only [eL, eH, eG, leO, Nat.beq, Nat.reduceLT]
    · simp only [plnS, nodO, riseK, eL, eH, eG, leO, Nat.beq, Nat.reduceLT]; first | done | rfl | simp | omega
    · simp only [plnS, nodO, riseK, eL, eH, eG, leO, Nat.beq, Nat.reduceLT]; exact ⟨rfl, rfl, rfl, rfl, rfl, rfl, rfl, rfl⟩
    · rintro ⟨k, hk⟩
      by_cases hlt : k < p.ways.length
      · have hf : decide ((k : Int) < p.ways.length) = true := decide_eq_true (by omega)
        obtain ⟨w1, w2⟩ := res_ways hr k hlt
        obtain ⟨f1, f2⟩ := has_iff w1
        obtain ⟨t1, t2⟩ := has_iff w2
        have hr1 : ∀ d, (p.ways.map wayS).getD k d = wayS (p.way k) := fun d => getIn wayS p.ways k d w0 hlt
        have hr6 : ∀ d, (p.cells.map cellS).getD (p.way k).1.toNat d = cellS (p.cell (p.way k).1.toNat) := fun d => getIn cellS p.cells _ d c0 (by omega)
        have hr7 : ∀ d, (p.cells.map cellS).getD (p.way k).2.1.toNat d = cellS (p.cell (p.way k).2.1.toNat) := fun d => getIn cellS p.cells _ d c0 (by omega)
        have hat : farB p k a = (decide ((p.cell (p.way k).1.toNat).1 = a) && !decide ((p.cell (p.way k).2.1.toNat).1 = a)) := by unfold farB begins ends; simp only [Int.toNat_natCast]
        have hset := riseO_set p (n.boot + 1) a k hlt
        have hskip := riseO_skip p (n.boot + 1) a k
        have hlen2 := riseO_len p (n.boot + 1) a k
        simp only [wayS, cellS] at hr1 hr6 hr7
        simp only [hT, hf, plnS, nodO, riseK, Int.toNat_natCast, ↓If_lit, eA, Nat.beq, List.toArray, Nat.reduceAdd, Nat.reduceLT, Nat.reduceLeDiff, Int.reduceToNat]
        repeat' first | (with_reducible refine And.intro ?_ ?_) | omega | intro _
        refine wpc_read [0, 1, 2, 3, 4, 5, 6, 7, 8, 9, 10, 11, 12, 13, 14, 15, 16, 17, 18, 19, 20, 21, 22, 23, 24, 25, 26, 27] hm (by kernel_rfl) ?_
        simp only [hT, hr1, hr6, hr7, Int.toNat_natCast, ↓If_lit, eT, ↓If_lit, Nat.reduceSub, reduceCtorEq, eA, Nat.beq, List.toArray, Nat.reduceAdd, Nat.reduceLT, Nat.reduceLeDiff, Int.reduceToNat]
        repeat' first | (refine If.mk (fun q => ?_) (fun q => ?_)) | (show In64 _; exact ⟨by omega, by omega⟩) | (with_reducible refine And.intro ?_ ?_) | omega | intro _
        all_goals first
          | (have hff : farB p k a = true := by (rw [hat]; (try simp only [Bool.not_eq_true', Bool.not_eq_false'] at *); simp only [*, decide_true, decide_false, Bool.true_or, Bool.or_true, Bool.false_or, Bool.or_false, Bool.not_true, Bool.not_false, Bool.true_and, Bool.and_true, Bool.false_and, Bool.and_false, Bool.and_self, Bool.or_self, Bool.not_not]; done)
             have hset := hset hff
             simp only [outE] at hset
             refine wpc_draw (.take 0 (.take 2 (.take 3 (.alt 1 (.alt 4 (.alt 5 (.alt 6 (.alt 7 .done .stop) .stop) .stop) .stop) (.alt 4 (.alt 1 (.alt 5 (.alt 6 (.alt 7 .done .stop) .stop) .stop) (.alt 5 (.alt 1 (.alt 6 (.alt 7 .done .stop) .stop) .stop) .stop)) .stop))))) hm (by kernel_rfl) ?_
             simp only [hT, hlen2, Int.toNat_natCast, ↓If_lit, eT, ↓If_lit, PCall, Nat.reduceSub, reduceCtorEq, eA, Nat.beq, List.toArray, Nat.reduceAdd, Nat.reduceLT, Nat.reduceLeDiff, Int.reduceToNat]
             repeat' first
               | (with_reducible refine And.intro ?_ ?_)
               | omega
               | (refine Fun.plain op rfl rfl rfl rfl ?_; simp only [hT, hlen2, hset, List.length_map, Int.toNat_natCast, ↓If_lit, eT, ↓If_lit, PCall, Nat.reduceSub, reduceCtorEq, eA, Nat.beq, List.toArray, Nat.reduceAdd, Nat.reduceLT, Nat.reduceLeDiff, Int.reduceToNat])
               | (show In64 _; exact ⟨by omega, by omega⟩)
               | (refine ⟨⟨k + 1, hlt⟩, by simp only; omega, ?_⟩; refine Le.trans (Le.abs 3 0 _ (Nat.zero_le _) (by rfl) rfl (by simp)) ?_; simp only [absRow, hset, plnS, nodO, riseK, eA, Nat.beq, List.toArray, Nat.reduceAdd, Nat.reduceLT, Nat.reduceLeDiff, Int.reduceToNat]; refine Le.of [] (Nat.zero_le _) ?_ ?_ ?_ <;> first | (simp only [plnS, nodO, riseK, eL, eH, eG, leO, Nat.beq, Nat.reduceLT]; done) | (simp only [plnS, nodO, riseK, eL, eH, eG, leO, Nat.beq, Nat.reduceLT]; first | done | rfl | omega | trivial))
               | rfl
               | trivial
               | (intro _)
             done)
          | (have hff : farB p k a = false := by (rw [hat]; (try simp only [Bool.not_eq_true', Bool.not_eq_false'] at *); simp only [*, decide_true, decide_false, Bool.true_or, Bool.or_true, Bool.false_or, Bool.or_false, Bool.not_true, Bool.not_false, Bool.true_and, Bool.and_true, Bool.false_and, Bool.and_false, Bool.and_self, Bool.or_self, Bool.not_not]; done)
             have hskip := hskip hff
             refine ⟨⟨k + 1, hlt⟩, by simp only; omega, Le.of [] (Nat.zero_le _) ?_ ?_ ?_⟩
             · simp only [eL, eH, eG, leO, Nat.beq, Nat.reduceLT]
             · simp only [eL, eH, eG, leO, Nat.beq, Nat.reduceLT]; first | done | omega
             · simp only [hskip, plnS, nodO, riseK, eL, eH, eG, leO, Nat.beq, Nat.reduceLT])
      · obtain rfl : k = p.ways.length := by omega
        have hf : decide ((p.ways.length : Int) < p.ways.length) = false := decide_eq_false (by omega)
        simp only [hT, hf, plnS, nodO, riseK, ↓If_lit, eA, Nat.beq, List.toArray, Nat.reduceAdd, Nat.reduceLT, Nat.reduceLeDiff, Int.reduceToNat]
        repeat' first | (with_reducible refine And.intro ?_ ?_) | trivial | rfl | intro _
  · have hrise : riseN p n a = n := by unfold riseN; rw [hup]; rfl
    rw [hrise]
    try simp only [hT, ↓If_lit, eA, Nat.beq, List.toArray, Nat.reduceAdd, Nat.reduceLT, Nat.reduceLeDiff, Int.reduceToNat]
    cases hu1 : n.up
    · rw [hu1, Bool.false_or] at hup
      simp only [hcmp, hup, hu1, hT, ↓If_lit, eA, Nat.beq, List.toArray, Nat.reduceAdd, Nat.reduceLT, Nat.reduceLeDiff, Int.reduceToNat]
      repeat' first | (with_reducible refine And.intro ?_ ?_) | trivial | rfl | (refine Fun.plain (hu1 ▸ cp) rfl rfl rfl rfl ?_; simp only [hT, ↓If_lit, eA, Nat.beq, List.toArray, Nat.reduceAdd, Nat.reduceLT, Nat.reduceLeDiff, Int.reduceToNat]) | intro _
    · simp only [hu1, hT, ↓If_lit, eA, Nat.beq, List.toArray, Nat.reduceAdd, Nat.reduceLT, Nat.reduceLeDiff, Int.reduceToNat]
      repeat' first | (with_reducible refine And.intro ?_ ?_) | trivial | rfl | (refine Fun.plain (hu1 ▸ cp) rfl rfl rfl rfl ?_; simp only [hT, ↓If_lit, eA, Nat.beq, List.toArray, Nat.reduceAdd, Nat.reduceLT, Nat.reduceLeDiff, Int.reduceToNat]) | intro _
theorem TY_nodRiseS {P : Program} (hP : P = Tryz.prog) : ((zeroT P 37 = some (((.bool false) :: ((.int .i64 0) :: ((.int .i64 0) :: (.nils :: (.nils :: (.nils :: (.nils :: (.nils :: (.nils :: (.nils :: [])))))))))))) ∧ (tyT P 43 = some ((true, 7)))) ∧ ((tyT P 37 = some ((true, 10))) ∧ (bldT P 37 = true)) := by subst hP; refine ⟨⟨?_, ?_⟩, ⟨?_, ?_⟩⟩ <;> kernel_rfl
theorem nodRiseS {P : Program} [Known P] (hP : P = Tryz.prog) (p : VPln) (hs : Sz p) (n : VNod) (hn : SzN n) (a : Int) : Fun P 26 [.agg (plnS p), .agg (nodS n), .int .i64 a] (.agg (nodO (roseN p n a))) := by
  refine fun_of (fn := Tryz.f26) (hP ▸ Tryz.func26) (by kernel_rfl) (by kernel_rfl) (by kernel_rfl) (by kernel_rfl) ?_
  have hT := TY_nodRiseS hP
  have oi := nodOkS hP p hs n hn a
  have ri := fun h => nodRiseS1 hP p hs n hn a h
  clear hP
  intro hl
  clear hl
  simp only [plnS, nodS, Tryz.f26, hT, eA, Nat.beq, List.toArray, Nat.reduceAdd, Nat.reduceLT, Nat.reduceLeDiff, Int.reduceToNat]
  simp only [plnS, nodS] at oi
  unfold roseN
  refine Fun.plain (oi) rfl rfl rfl rfl ?_; simp only [hT, nneg, beq_self_eq_true, decide_true, decide_false, ↓If_lit, Int.cast_ofNat_Int, Int.reduceLT, Int.reduceLE, eA, Nat.beq, List.toArray, Nat.reduceAdd, Nat.reduceLT, Nat.reduceLeDiff, Int.reduceToNat]; (try unfold lim); repeat first | ((with_reducible refine And.intro ?_ ?_); (first | omega | exact ⟨by omega, by omega⟩ | rfl)) | intro _
  refine ⟨fun q => ?_, fun q => ?_⟩
  · have q : okN p n a = false := by simpa using q
    rw [q]
    exact nod0_sub
  · have q : okN p n a = true := by simpa using q
    rw [q]
    simp only [cond_true]
    have ri := ri q
    simp only [plnS, nodS, nodO] at ri
    refine Fun.plain (ri) rfl rfl rfl rfl ?_; simp only [hT, nneg, beq_self_eq_true, decide_true, decide_false, ↓If_lit, Int.cast_ofNat_Int, Int.reduceLT, Int.reduceLE, eA, Nat.beq, List.toArray, Nat.reduceAdd, Nat.reduceLT, Nat.reduceLeDiff, Int.reduceToNat]; (try unfold lim); repeat first | ((with_reducible refine And.intro ?_ ?_); (first | omega | exact ⟨by omega, by omega⟩ | rfl)) | intro _
    exact nod_sub _
end Go.Proofs.YtjlmfcddbcoimaaGreat.C
