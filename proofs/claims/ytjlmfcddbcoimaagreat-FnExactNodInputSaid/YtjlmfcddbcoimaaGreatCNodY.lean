/- Whether a node is ok, by the given text. -/
import Derived.Test.YtjlmfcddbcoimaaGreatCNodX
set_option maxRecDepth 100000
set_option maxHeartbeats 4000000
set_option linter.unusedSimpArgs false
set_option linter.unusedVariables false
namespace Go.Proofs.YtjlmfcddbcoimaaGreat.C
open Go Go.Av Go.Proofs
open Nat (reduceAdd reduceLT reduceLeDiff reduceSub)
open Int (reduceToNat)
theorem TY_waysOkS {P : Program} (hP : P = Tryz.prog) : (((fldT P 37 4 = some ((4, (false, 1)))) ∧ ((tyT P 30 = some ((false, 1))) ∧ (lkT P 30 = 1))) ∧ (((fldT P 43 4 = some ((4, (false, 1)))) ∧ (tyT P 40 = some ((false, 1)))) ∧ ((lkT P 40 = 1) ∧ (fldT P 37 5 = some ((5, (false, 1))))))) ∧ ((((fldT P 37 6 = some ((6, (false, 1)))) ∧ (tyT P 31 = some ((false, 1)))) ∧ ((lkT P 31 = 1) ∧ (fldT P 37 7 = some ((7, (false, 1)))))) ∧ (((tyT P 32 = some ((false, 1))) ∧ (lkT P 32 = 1)) ∧ ((tyT P 43 = some ((true, 7))) ∧ (tyT P 37 = some ((true, 10)))))) := by subst hP; refine ⟨⟨⟨?_, ⟨?_, ?_⟩⟩, ⟨⟨?_, ?_⟩, ⟨?_, ?_⟩⟩⟩, ⟨⟨⟨?_, ?_⟩, ⟨?_, ?_⟩⟩, ⟨⟨?_, ?_⟩, ⟨?_, ?_⟩⟩⟩⟩ <;> kernel_rfl
theorem waysOkS {P : Program} [Known P] (hP : P = Tryz.prog) (p : VPln) (hs : Sz p) (hr : res p = none) (n : VNod) (hn : SzN n) (a : Int) (l5 : (n.heard.1.length : Int) = p.1) : Fun P 181 [.agg (plnS p), .agg (nodS n), .int .i64 a] (.bool (lensB p n && (List.range p.ways.length).all (waysAt p n a))) := by
  refine fun_of (fn := Tryz.f181) (hP ▸ Tryz.func181) (by kernel_rfl) (by kernel_rfl) (by kernel_rfl) (by kernel_rfl) ?_
  have hT := TY_waysOkS hP
  have wo := fun k hk l1 l2 l3 l4 => wayOkS hP p hs hr n hn a k hk l1 l2 l3 l4 l5
  clear hP
  intro hl
  clear hl
  simp only [plnS, nodS, Tryz.f181, hT, eA, Nat.beq, List.toArray, reduceAdd, reduceLT, reduceLeDiff, reduceToNat]
  have hbw : p.ways.length ≤ 140737488355328 := by have := hs.w; omega
  have lbad : lensB p n = false → false = (lensB p n && (List.range p.ways.length).all (waysAt p n a)) := fun h => by rw [h, Bool.false_and]
  all_goals repeat' first
    | (refine If.mk (fun q => ?_) (fun q => ?_))
    | (show In64 _; exact ⟨by omega, by omega⟩)
    | (with_reducible refine And.intro ?_ ?_)
    | omega
    | (intro _)
  all_goals first
    | exact lbad (by unfold lensB; (try simp only [Bool.not_eq_true', Bool.not_eq_false'] at *); simp only [*, eQ]; done)
    | skip
  all_goals have hle : lensB p n = true := by unfold lensB; (try simp only [Bool.not_eq_true', Bool.not_eq_false'] at *); simp only [*, eQ]; done
  all_goals clear lbad
  have hll := hle
  unfold lensB at hll
  simp only [Bool.and_eq_true, decide_eq_true_eq] at hll
  obtain ⟨m1, m2, m3, m4⟩ := hll
  have wo := fun k hk => wo k hk (by omega) (by omega) (by omega) (by omega)
  rw [hle, Bool.true_and]
  refine wpc_loop {k : Nat // k ≤ p.ways.length ∧ (List.range k).all (waysAt p n a) = true} (fun k => ⟨[(2, .int .i64 a), (3, .cp 0 0 0), (4, .cp 1 0 0), (7, .int .i64 k.1)], [(1, ⟨10, [nodS n], [], true⟩), (0, ⟨7, [plnS p], [], true⟩)], 2⟩) (fun k => p.ways.length - k.1) ⟨0, Nat.zero_le _, rfl⟩ (Le.of [] (Nat.zero_le _) ?_ ?_ ?_) ?_
  · simp only [eL, eH, eG, leO, Nat.beq, reduceLT]
  · simp only [plnS, nodS, eL, eH, eG, leO, Nat.beq, reduceLT]; first | done | rfl | simp | omega
  · simp only [plnS, nodS, eL, eH, eG, leO, Nat.beq, reduceLT]
  · rintro ⟨k, hk, hp⟩
    by_cases hlt : k < p.ways.length
    · have hf : decide ((k : Int) < p.ways.length) = true := decide_eq_true (by omega)
      have hta := rall_succ (waysAt p n a) k
      have hab := rall_bad (waysAt p n a) p.ways.length k hlt
      have wo := wo k hlt
      simp only [plnS, nodS] at wo
      simp only [hT, hf, nodS, plnS, ↓If_lit, eA, Nat.beq, List.toArray, reduceAdd, reduceLT, reduceLeDiff, reduceToNat]
      repeat intro _
      (try unfold lim); repeat first | ((with_reducible refine And.intro ?_ ?_); (first | omega | exact ⟨by omega, by omega⟩ | rfl)) | intro _
      have hbad : waysAt p n a k = false → false = (List.range p.ways.length).all (waysAt p n a) := fun e => by rw [hab e]
      all_goals repeat' first
        | (refine If.mk (fun q => ?_) (fun q => ?_))
        | (show In64 _; exact ⟨by omega, by omega⟩)
        | (with_reducible refine And.intro ?_ ?_)
        | omega
        | (refine Fun.plain (wo) rfl rfl rfl rfl ?_; simp only [hT, Int.cast_ofNat_Int, Int.toNat_natCast, ↓If_lit, eA, Nat.beq, List.toArray, reduceAdd, reduceLT, reduceLeDiff, reduceToNat])
        | (intro _)
      all_goals try simp only [Bool.not_eq_true', Bool.not_eq_false'] at *
      all_goals first
        | exact hbad (by clear hbad; simp only [*]; done)
        | (have hok : waysAt p n a k = true := by clear hbad; simp only [*]; done
           try refine And.intro (show In64 _ from ⟨by omega, by omega⟩) ?_
           refine ⟨⟨k + 1, hlt, by rw [hta, hp, hok]; rfl⟩, by simp only; omega, Le.of [] (Nat.zero_le _) ?_ ?_ ?_⟩
           · simp only [eL, eH, eG, leO, Nat.beq, reduceLT]
           · simp only [plnS, nodS, eL, eH, eG, leO, Nat.beq, reduceLT]; first | done | rfl | simp | omega
           · simp only [plnS, nodS, eL, eH, eG, leO, Nat.beq, reduceLT])
    · obtain rfl : k = p.ways.length := by omega
      have hf : decide ((p.ways.length : Int) < p.ways.length) = false := decide_eq_false (by omega)
      simp only [hT, hf, plnS, nodS, ↓If_lit, eA, Nat.beq, List.toArray, reduceAdd, reduceLT, reduceLeDiff, reduceToNat]
      repeat intro _
      exact hp.symm
theorem TY_okS {P : Program} (hP : P = Tryz.prog) : (((fldT P 37 1 = some ((1, (false, 1)))) ∧ ((tyT P 3 = some ((false, 1))) ∧ (fldT P 37 2 = some ((2, (false, 1)))))) ∧ (((fldT P 37 0 = some ((0, (false, 1)))) ∧ (tyT P 4 = some ((false, 1)))) ∧ ((fldT P 37 8 = some ((8, (true, 2)))) ∧ (tyT P 35 = some ((true, 2)))))) ∧ (((fldT P 35 0 = some ((0, (false, 1)))) ∧ ((tyT P 33 = some ((false, 1))) ∧ (lkT P 33 = 1))) ∧ (((fldT P 43 0 = some ((0, (false, 1)))) ∧ (elT P 33 = some ((false, (1, 8))))) ∧ ((tyT P 43 = some ((true, 7))) ∧ (tyT P 37 = some ((true, 10)))))) := by subst hP; refine ⟨⟨⟨?_, ⟨?_, ?_⟩⟩, ⟨⟨?_, ?_⟩, ⟨?_, ?_⟩⟩⟩, ⟨⟨?_, ⟨?_, ?_⟩⟩, ⟨⟨?_, ?_⟩, ⟨?_, ?_⟩⟩⟩⟩ <;> kernel_rfl
theorem okS {P : Program} [Known P] (hP : P = Tryz.prog) (p : VPln) (hs : Sz p) (hr : res p = none) (n : VNod) (hn : SzN n) (a : Int) (ha : has a p.1 = true) : Fun P 92 [.agg (plnS p), .agg (nodS n), .int .i64 a] (.bool (goodB p n a)) := by
  refine fun_of (fn := Tryz.f92) (hP ▸ Tryz.func92) (by kernel_rfl) (by kernel_rfl) (by kernel_rfl) (by kernel_rfl) ?_
  have hT := TY_okS hP
  have l1 := fun x a b => l1In hP x a b
  have ho := hrdOkS hP n.heard
  have hd := deafS hP n.heard hn.b
  have cl := cellsOkS hP p hs n hn a
  have wy := fun h => waysOkS hP p hs hr n hn a h
  clear hP
  intro hl
  clear hl
  simp only [plnS, nodS, Tryz.f92, hT, eA, Nat.beq, List.toArray, reduceAdd, reduceLT, reduceLeDiff, reduceToNat]
  obtain ⟨ha0, ha1⟩ := has_iff ha
  have hb1 : n.heard.1.length ≤ 140737488355328 := by have := hn.b; omega
  simp only [hrdS] at ho hd
  simp only [plnS, nodS] at cl wy
  have bad1 : lifeHd n = true → false = goodB p n a := fun h => by unfold goodB lifeB; rw [h]; rfl
  have bad2 : lifeMid p n a = true → false = goodB p n a := fun h => by unfold goodB lifeB; rw [h, Bool.not_true, Bool.false_and, Bool.and_false, Bool.false_and]
  have e1 : lifeHd n = ((!(decide (0 ≤ n.boot) && decide (n.boot ≤ 60000)) || !(decide (0 ≤ n.hello) && decide (n.hello ≤ 60000))) || (n.up && decide (n.boot = 0))) := by
    unfold lifeHd; cases n.up <;> (rw [Bool.eq_iff_iff]; simp; try omega)
  have e2 : hrdB n.heard = true → n.heard.1.getD a.toNat 0 = 0 ∨ 0 < n.heard.1.getD a.toNat 0 ∨ n.heard.1.length ≤ a.toNat := fun h => by
    by_cases hx : a.toNat < n.heard.1.length
    · unfold hrdB at h
      simp only [Bool.and_eq_true] at h
      have h2 := rall_get h.2 a.toNat hx
      unfold hrdAt at h2
      simp only [Bool.and_eq_true, decide_eq_true_eq] at h2
      omega
    · omega
  have e3 : hrdB n.heard = true → n.up = false → n.heard.1.all (lifeAt n) = n.heard.1.all deafAt := fun h hu => by
    rw [Bool.eq_iff_iff, List.all_eq_true, List.all_eq_true]
    unfold hrdB at h
    simp only [Bool.and_eq_true] at h
    constructor
    · intro g x hx
      have := g x hx
      unfold lifeAt at this
      rw [hu] at this
      simp at this
      subst this
      rfl
    · intro g x hx
      have h1 := g x hx
      obtain ⟨j, hj, rfl⟩ := List.mem_iff_getElem.1 hx
      have h2 := rall_get h.2 j hj
      unfold hrdAt at h2
      have hg : n.heard.1.getD j 0 = n.heard.1[j] := by rw [List.getD_eq_getElem?_getD, List.getElem?_eq_getElem hj]; rfl
      rw [hg] at h2
      simp only [Bool.and_eq_true, decide_eq_true_eq] at h2
      unfold deafAt at h1
      simp at h1
      unfold lifeAt
      rw [hu]
      simp
      omega
  have hgood : goodB p n a = (lifeB p n a && ((decide ((n.cells.length : Int) = p.cells.length) && (List.range p.cells.length).all (cellsAt p n a)) && (lensB p n && (List.range p.ways.length).all (waysAt p n a)))) := by unfold goodB; simp only [Bool.and_assoc]
  have e4 : n.up = true → n.heard.1.all (lifeAt n) = true := fun hu => by
    rw [List.all_eq_true]; intro x hx; unfold lifeAt; rw [hu]; rfl
  have e5 : decide (0 < n.hello) = true → decide (n.hello = 0) = false := fun h => by simp at h; simp; omega
  have e6 : decide (0 < n.heard.1.getD a.toNat 0) = true → decide (n.heard.1.getD a.toNat 0 = 0) = false := fun h => by simp only [decide_eq_true_eq] at h; rw [decide_eq_false_iff_not]; omega
  have e9 : (decide (0 ≤ n.hello) && decide (n.hello ≤ 60000)) = true → decide (0 < n.hello) = false → decide (n.hello = 0) = true := fun h g => by simp at h g; simp; omega
  by_cases hL : (n.heard.1.length : Int) = p.1
  · have hdL : decide ((n.heard.1.length : Int) = p.1) = true := decide_eq_true hL
    have hg : ∀ d, (n.heard.1.map intE).getD a.toNat d = intE (n.heard.1.getD a.toNat 0) := fun d => getIn intE n.heard.1 a.toNat d 0 (by omega)
    have e8 : hrdB n.heard = true → decide (0 < n.heard.1.getD a.toNat 0) = false → decide (n.heard.1.getD a.toNat 0 = 0) = true := fun h g => by
      rw [decide_eq_false_iff_not] at g
      rw [decide_eq_true_eq]
      have := e2 h
      omega
    have wy := wy hL
    cases hup : n.up
    all_goals rw [hup] at e1 e3 e4
    all_goals simp only [hup] at cl wy
    all_goals repeat' first
      | (refine If.mk (fun q => ?_) (fun q => ?_))
      | (show In64 _; exact ⟨by omega, by omega⟩)
      | (with_reducible refine And.intro ?_ ?_)
      | omega
      | (refine Fun.plain (l1 _ _ _) rfl rfl rfl rfl ?_; simp only [hT, hup, hdL, hg, intE, Bool.not_true, Bool.not_false, Int.cast_ofNat_Int, Int.toNat_natCast, ↓If_lit, eA, Nat.beq, List.toArray, reduceAdd, reduceLT, reduceLeDiff, reduceToNat])
      | (refine Fun.plain (ho) rfl rfl rfl rfl ?_; simp only [hT, hup, hdL, hg, intE, Bool.not_true, Bool.not_false, Int.cast_ofNat_Int, Int.toNat_natCast, ↓If_lit, eA, Nat.beq, List.toArray, reduceAdd, reduceLT, reduceLeDiff, reduceToNat])
      | (refine Fun.plain (hd) rfl rfl rfl rfl ?_; simp only [hT, hup, hdL, hg, intE, Bool.not_true, Bool.not_false, Int.cast_ofNat_Int, Int.toNat_natCast, ↓If_lit, eA, Nat.beq, List.toArray, reduceAdd, reduceLT, reduceLeDiff, reduceToNat])
      | (refine Fun.plain (cl) rfl rfl rfl rfl ?_; simp only [hT, hup, hdL, hg, intE, Bool.not_true, Bool.not_false, Int.cast_ofNat_Int, Int.toNat_natCast, ↓If_lit, eA, Nat.beq, List.toArray, reduceAdd, reduceLT, reduceLeDiff, reduceToNat])
      | (refine Fun.plain (wy) rfl rfl rfl rfl ?_; simp only [hT, hup, hdL, hg, intE, Bool.not_true, Bool.not_false, Int.cast_ofNat_Int, Int.toNat_natCast, ↓If_lit, eA, Nat.beq, List.toArray, reduceAdd, reduceLT, reduceLeDiff, reduceToNat])
      | (intro _)
    all_goals try simp only [Bool.not_eq_true', Bool.not_eq_false'] at *
    all_goals first
      | done
      | (refine bad1 ?_; clear bad1 bad2; rw [e1]; simp only [*, eQ]; done)
      | (refine bad2 ?_; clear bad1 bad2; unfold lifeMid; simp only [*, eQ]; done)
      | (have h1 : lifeHd n = false := by clear bad1 bad2; rw [e1]; simp only [*, eQ]; done
         have h2 : lifeMid p n a = false := by clear bad1 bad2; unfold lifeMid; simp only [*, eQ]; done
         clear bad1 bad2 e1
         rw [hgood]
         unfold lifeB
         simp only [*, eQ]; done)
  · have hdL : decide ((n.heard.1.length : Int) = p.1) = false := decide_eq_false hL
    cases hup : n.up
    all_goals rw [hup] at e1 e3 e4
    all_goals repeat' first
      | (refine If.mk (fun q => ?_) (fun q => ?_))
      | (show In64 _; exact ⟨by omega, by omega⟩)
      | (with_reducible refine And.intro ?_ ?_)
      | omega
      | (refine Fun.plain (l1 _ _ _) rfl rfl rfl rfl ?_; simp only [hT, hup, hdL, Bool.not_true, Bool.not_false, Int.cast_ofNat_Int, Int.toNat_natCast, ↓If_lit, eA, Nat.beq, List.toArray, reduceAdd, reduceLT, reduceLeDiff, reduceToNat])
      | (refine Fun.plain (ho) rfl rfl rfl rfl ?_; simp only [hT, hup, hdL, Bool.not_true, Bool.not_false, Int.cast_ofNat_Int, Int.toNat_natCast, ↓If_lit, eA, Nat.beq, List.toArray, reduceAdd, reduceLT, reduceLeDiff, reduceToNat])
      | (refine Fun.plain (hd) rfl rfl rfl rfl ?_; simp only [hT, hup, hdL, Bool.not_true, Bool.not_false, Int.cast_ofNat_Int, Int.toNat_natCast, ↓If_lit, eA, Nat.beq, List.toArray, reduceAdd, reduceLT, reduceLeDiff, reduceToNat])
      | (intro _)
    all_goals try simp only [Bool.not_eq_true', Bool.not_eq_false'] at *
    all_goals first
      | done
      | (refine bad1 ?_; clear bad1 bad2; rw [e1]; simp only [*, eQ]; done)
      | (refine bad2 ?_; clear bad1 bad2; unfold lifeMid; simp only [*, eQ]; done)
      | (have h1 : lifeHd n = false := by clear bad1 bad2; rw [e1]; simp only [*, eQ]; done
         have h2 : lifeMid p n a = false := by clear bad1 bad2; unfold lifeMid; simp only [*, eQ]; done
         clear bad1 bad2 e1
         rw [hgood]
         unfold lifeB
         simp only [*, eQ]; done)
end Go.Proofs.YtjlmfcddbcoimaaGreat.C
