/- What is wrong with a plan first, by the given text. -/
import Derived.Test.YtjlmfcddbcoimaaGreatCPlnJ
set_option maxRecDepth 100000
set_option linter.unusedSimpArgs false
set_option linter.unusedVariables false
namespace Go.Proofs.YtjlmfcddbcoimaaGreat.C
open Go Go.Av Go.Proofs
open Nat (reduceAdd reduceLT reduceLeDiff reduceSub)
open Int (reduceToNat)
set_option maxHeartbeats 4000000
abbrev RT (c k : Int) : AV := .tup [.int .i64 c, .int .i64 k]
def resAV : Option (Nat × Nat) → AV
  | none => RT 0 0
  | some (c, k) => RT c k
theorem when_in {c : Nat} {x a b : Int} : when c (decide (x < a) || decide (b < x)) = bif (decide (a ≤ x) && decide (x ≤ b)) then none else some (c, 0) := by
  rw [← in_has2]
  cases (decide (a ≤ x) && decide (x ≤ b)) <;> rfl
theorem nt : ∀ {b : Bool}, (!b) = true → b = false := by intro b h; cases b <;> simp_all
theorem nf : ∀ {b : Bool}, (!b) = false → b = true := by intro b h; cases b <;> simp_all
theorem TY_plnCheckS {P : Program} (hP : P = Tryz.prog) : (((P.follows .mixedOrders = true) ∧ ((fldT P 43 0 = some ((0, (false, 1)))) ∧ (tyT P 3 = some ((false, 1))))) ∧ (((fldT P 43 1 = some ((1, (false, 1)))) ∧ (fldT P 43 2 = some ((2, (false, 1))))) ∧ ((fldT P 43 3 = some ((3, (false, 1)))) ∧ (tyT P 39 = some ((false, 1)))))) ∧ ((((lkT P 39 = 1) ∧ (tyT P 43 = some ((true, 7)))) ∧ ((fldT P 43 4 = some ((4, (false, 1)))) ∧ (tyT P 40 = some ((false, 1))))) ∧ (((lkT P 40 = 1) ∧ (fldT P 43 5 = some ((5, (false, 1))))) ∧ ((tyT P 41 = some ((false, 1))) ∧ (lkT P 41 = 1)))) := by subst hP; refine ⟨⟨⟨?_, ⟨?_, ?_⟩⟩, ⟨⟨?_, ?_⟩, ⟨?_, ?_⟩⟩⟩, ⟨⟨⟨?_, ?_⟩, ⟨?_, ?_⟩⟩, ⟨⟨?_, ?_⟩, ⟨?_, ?_⟩⟩⟩⟩ <;> kernel_rfl
theorem plnCheckS {P : Program} [Known P] (hP : P = Tryz.prog) (p : VPln) (hs : Sz p) : Fun P 148 [.agg (plnS p)] (resAV (res p)) := by
  refine fun_of (fn := Tryz.f148) (hP ▸ Tryz.func148) (by kernel_rfl) (by kernel_rfl) (by kernel_rfl) (by kernel_rfl) ?_
  have hT := TY_plnCheckS hP
  have hm : P.follows .mixedOrders = true := by subst hP; kernel_rfl
  have l1 := @l1In P _ hP
  have cCells := @l9Cells P _ hP p
  have cWays := @l9Ways P _ hP p hs
  have cLeaks := @l9Leaks P _ hP p hs
  have cSlots := @l9Slots P _ hP p
  have cDumb := @l9Dumb P _ hP p
  have cLost := @l9Lost P _ hP p hs
  have cTurns := @l9Turns P _ hP p
  have cIdle := @l9Idle P _ hP p hs
  have cTakes := @l9Takes P _ hP p hs
  clear hP
  intro hl
  clear hl
  have hc := hs.c
  have hw := hs.w
  have hz := hs.s
  have o0 : ∀ i, i < 0 → chk p i = none := fun i hi => absurd hi (by omega)
  simp only [plnS, Tryz.f148, hT, eA, Nat.beq, List.toArray, reduceAdd, reduceLT, reduceLeDiff, reduceToNat]
  (try unfold lim); repeat first | ((with_reducible refine And.intro ?_ ?_); (first | omega | exact ⟨by omega, by omega⟩ | rfl)) | intro _
  refine Fun.plain (l1 p.1 1 4) rfl rfl rfl rfl ?_; simp only [hT, eN, ↓If_lit, Int.reduceLT, Int.reduceLE, eA, Nat.beq, List.toArray, reduceAdd, reduceLT, reduceLeDiff, reduceToNat]; (try unfold lim); repeat first | ((with_reducible refine And.intro ?_ ?_); (first | omega | exact ⟨by omega, by omega⟩ | rfl)) | intro _
  refine ⟨fun q => ?_, fun q => ?_⟩
  · have e : chk p 0 = some (1, 0) := by rw [show chk p 0 = when 1 (decide (p.1 < 1) || decide (4 < p.1)) from rfl, when_in, nt q]; rfl
    rw [res_at (by omega) e o0]; simp only [resAV, eA, Nat.beq, List.toArray, reduceAdd, reduceLT, reduceLeDiff, reduceToNat]; first | exact ⟨rfl, rfl⟩ | rfl | trivial
  have e : chk p 0 = none := by rw [show chk p 0 = when 1 (decide (p.1 < 1) || decide (4 < p.1)) from rfl, when_in, nf q]; rfl
  have o1 := upto o0 e
  clear q e
  obtain ⟨n, hn, hn1, hn4⟩ := chk_nodes (o1 0 (by omega))
  (try unfold lim); repeat first | ((with_reducible refine And.intro ?_ ?_); (first | omega | exact ⟨by omega, by omega⟩ | rfl)) | intro _
  refine Fun.plain (l1 p.2.1 0 4294967295) rfl rfl rfl rfl ?_; simp only [hT, eN, ↓If_lit, Int.reduceLT, Int.reduceLE, eA, Nat.beq, List.toArray, reduceAdd, reduceLT, reduceLeDiff, reduceToNat]; (try unfold lim); repeat first | ((with_reducible refine And.intro ?_ ?_); (first | omega | exact ⟨by omega, by omega⟩ | rfl)) | intro _
  refine ⟨fun q => ?_, fun q => ?_⟩
  · have e : chk p 1 = some (2, 0) := by rw [show chk p 1 = when 2 (decide (p.2.1 < 0) || decide (4294967295 < p.2.1)) from rfl, when_in, nt q]; rfl
    rw [res_at (by omega) e o1]; simp only [resAV, eA, Nat.beq, List.toArray, reduceAdd, reduceLT, reduceLeDiff, reduceToNat]; first | exact ⟨rfl, rfl⟩ | rfl | trivial
  have e : chk p 1 = none := by rw [show chk p 1 = when 2 (decide (p.2.1 < 0) || decide (4294967295 < p.2.1)) from rfl, when_in, nf q]; rfl
  have o2 := upto o1 e
  clear q e
  (try unfold lim); repeat first | ((with_reducible refine And.intro ?_ ?_); (first | omega | exact ⟨by omega, by omega⟩ | rfl)) | intro _
  refine Fun.plain (l1 p.2.2.1 1 16) rfl rfl rfl rfl ?_; simp only [hT, eN, ↓If_lit, Int.reduceLT, Int.reduceLE, eA, Nat.beq, List.toArray, reduceAdd, reduceLT, reduceLeDiff, reduceToNat]; (try unfold lim); repeat first | ((with_reducible refine And.intro ?_ ?_); (first | omega | exact ⟨by omega, by omega⟩ | rfl)) | intro _
  refine ⟨fun q => ?_, fun q => ?_⟩
  · have e : chk p 2 = some (3, 0) := by rw [show chk p 2 = when 3 (decide (p.2.2.1 < 1) || decide (16 < p.2.2.1)) from rfl, when_in, nt q]; rfl
    rw [res_at (by omega) e o2]; simp only [resAV, eA, Nat.beq, List.toArray, reduceAdd, reduceLT, reduceLeDiff, reduceToNat]; first | exact ⟨rfl, rfl⟩ | rfl | trivial
  have e : chk p 2 = none := by rw [show chk p 2 = when 3 (decide (p.2.2.1 < 1) || decide (16 < p.2.2.1)) from rfl, when_in, nf q]; rfl
  have o3 := upto o2 e
  clear q e
  (try unfold lim); repeat first | ((with_reducible refine And.intro ?_ ?_); (first | omega | exact ⟨by omega, by omega⟩ | rfl)) | intro _
  refine Fun.plain (l1 p.cells.length 1 8) rfl rfl rfl rfl ?_; simp only [hT, eN, ↓If_lit, Int.reduceLT, Int.reduceLE, eA, Nat.beq, List.toArray, reduceAdd, reduceLT, reduceLeDiff, reduceToNat]; (try unfold lim); repeat first | ((with_reducible refine And.intro ?_ ?_); (first | omega | exact ⟨by omega, by omega⟩ | rfl)) | intro _
  refine ⟨fun q => ?_, fun q => ?_⟩
  · have e : chk p 3 = some (4, 0) := by rw [show chk p 3 = when 4 (decide ((p.cells.length : Int) < 1) || decide (8 < (p.cells.length : Int))) from rfl, when_in, nt q]; rfl
    rw [res_at (by omega) e o3]; simp only [resAV, eA, Nat.beq, List.toArray, reduceAdd, reduceLT, reduceLeDiff, reduceToNat]; first | exact ⟨rfl, rfl⟩ | rfl | trivial
  have e : chk p 3 = none := by rw [show chk p 3 = when 4 (decide ((p.cells.length : Int) < 1) || decide (8 < (p.cells.length : Int))) from rfl, when_in, nf q]; rfl
  have o4 := upto o3 e
  clear q e
  refine wpc_read [0, 1, 2, 3, 4, 5, 6] hm (by kernel_rfl) ?_
  simp only [hT, eT, ↓If_lit, reduceSub, reduceCtorEq, eA, Nat.beq, List.toArray, reduceAdd, reduceLT, reduceLeDiff, reduceToNat]
  have cc := cCells n hn hn1 hn4 hs
  simp only [plnS] at cc
  refine Fun.pcall (cc) (by exact rfl) rfl rfl rfl rfl ?_; simp only [hT, nneg, decide_true, decide_false, ↓If_lit, Int.cast_ofNat_Int, Int.reduceLT, Int.reduceLE, eT, ↓If_lit, reduceSub, reduceCtorEq, eA, Nat.beq, List.toArray, reduceAdd, reduceLT, reduceLeDiff, reduceToNat]; (try unfold lim); repeat first | ((with_reducible refine And.intro ?_ ?_); (first | omega | exact ⟨by omega, by omega⟩ | rfl)) | intro _
  refine ⟨fun q => ?_, fun q => ?_⟩
  · have q : fb p.cells.length (bad5 p) < p.cells.length := by simpa using q
    have e : chk p 4 = some (5, fb p.cells.length (bad5 p)) := by rw [show chk p 4 = first 5 p.cells.length (bad5 p) from rfl]; unfold first; rw [if_pos q]
    refine Fun.plain (cc) rfl rfl rfl rfl ?_; simp only [hT, eN, ↓If_lit, Int.reduceLT, Int.reduceLE, eA, Nat.beq, List.toArray, reduceAdd, reduceLT, reduceLeDiff, reduceToNat]; (try unfold lim); repeat first | ((with_reducible refine And.intro ?_ ?_); (first | omega | exact ⟨by omega, by omega⟩ | rfl)) | intro _
    rw [res_at (by omega) e o4]; simp only [resAV, eA, Nat.beq, List.toArray, reduceAdd, reduceLT, reduceLeDiff, reduceToNat]; first | exact ⟨rfl, rfl⟩ | rfl | trivial
  have q : ¬fb p.cells.length (bad5 p) < p.cells.length := by simpa using q
  have e : chk p 4 = none := by rw [show chk p 4 = first 5 p.cells.length (bad5 p) from rfl]; unfold first; rw [if_neg q]
  have b4 := first_ok (show first 5 p.cells.length (bad5 p) = none by unfold first; rw [if_neg q])
  have o5 := upto o4 e
  clear q e cc
  (try unfold lim); repeat first | ((with_reducible refine And.intro ?_ ?_); (first | omega | exact ⟨by omega, by omega⟩ | rfl)) | intro _
  refine ⟨fun q => ?_, fun q => ?_⟩
  · have e : chk p 5 = some (6, 0) := by rw [show chk p 5 = when 6 (decide (10 < (p.ways.length : Int))) from rfl, q]; rfl
    rw [res_at (by omega) e o5]; simp only [resAV, eA, Nat.beq, List.toArray, reduceAdd, reduceLT, reduceLeDiff, reduceToNat]; first | exact ⟨rfl, rfl⟩ | rfl | trivial
  have e : chk p 5 = none := by rw [show chk p 5 = when 6 (decide (10 < (p.ways.length : Int))) from rfl, q]; rfl
  have o6 := upto o5 e
  clear q e
  refine wpc_read [0, 1, 2, 3, 4, 5, 6] hm (by kernel_rfl) ?_
  simp only [hT, eT, ↓If_lit, reduceSub, reduceCtorEq, eA, Nat.beq, List.toArray, reduceAdd, reduceLT, reduceLeDiff, reduceToNat]
  have cc := cWays
  simp only [plnS] at cc
  refine Fun.pcall (cc) (by exact rfl) rfl rfl rfl rfl ?_; simp only [hT, nneg, decide_true, decide_false, ↓If_lit, Int.cast_ofNat_Int, Int.reduceLT, Int.reduceLE, eT, ↓If_lit, reduceSub, reduceCtorEq, eA, Nat.beq, List.toArray, reduceAdd, reduceLT, reduceLeDiff, reduceToNat]; (try unfold lim); repeat first | ((with_reducible refine And.intro ?_ ?_); (first | omega | exact ⟨by omega, by omega⟩ | rfl)) | intro _
  refine ⟨fun q => ?_, fun q => ?_⟩
  · have q : fb p.ways.length (bad7 p) < p.ways.length := by simpa using q
    have e : chk p 6 = some (7, fb p.ways.length (bad7 p)) := by rw [show chk p 6 = first 7 p.ways.length (bad7 p) from rfl]; unfold first; rw [if_pos q]
    refine Fun.plain (cc) rfl rfl rfl rfl ?_; simp only [hT, eN, ↓If_lit, Int.reduceLT, Int.reduceLE, eA, Nat.beq, List.toArray, reduceAdd, reduceLT, reduceLeDiff, reduceToNat]; (try unfold lim); repeat first | ((with_reducible refine And.intro ?_ ?_); (first | omega | exact ⟨by omega, by omega⟩ | rfl)) | intro _
    rw [res_at (by omega) e o6]; simp only [resAV, eA, Nat.beq, List.toArray, reduceAdd, reduceLT, reduceLeDiff, reduceToNat]; first | exact ⟨rfl, rfl⟩ | rfl | trivial
  have q : ¬fb p.ways.length (bad7 p) < p.ways.length := by simpa using q
  have e : chk p 6 = none := by rw [show chk p 6 = first 7 p.ways.length (bad7 p) from rfl]; unfold first; rw [if_neg q]
  have b6 := first_ok (show first 7 p.ways.length (bad7 p) = none by unfold first; rw [if_neg q])
  have o7 := upto o6 e
  clear q e cc
  have h7 : ∀ k, k < p.ways.length → has (p.way k).1 p.cells.length = true ∧ has (p.way k).2.1 p.cells.length = true := fun k hk => bad7_has (b6 k hk)
  refine wpc_read [0, 1, 2, 3, 4, 5, 6] hm (by kernel_rfl) ?_
  simp only [hT, eT, ↓If_lit, reduceSub, reduceCtorEq, eA, Nat.beq, List.toArray, reduceAdd, reduceLT, reduceLeDiff, reduceToNat]
  have cc := cLeaks h7
  simp only [plnS] at cc
  refine Fun.pcall (cc) (by exact rfl) rfl rfl rfl rfl ?_; simp only [hT, nneg, decide_true, decide_false, ↓If_lit, Int.cast_ofNat_Int, Int.reduceLT, Int.reduceLE, eT, ↓If_lit, reduceSub, reduceCtorEq, eA, Nat.beq, List.toArray, reduceAdd, reduceLT, reduceLeDiff, reduceToNat]; (try unfold lim); repeat first | ((with_reducible refine And.intro ?_ ?_); (first | omega | exact ⟨by omega, by omega⟩ | rfl)) | intro _
  refine ⟨fun q => ?_, fun q => ?_⟩
  · have q : fb p.ways.length (bad8 p) < p.ways.length := by simpa using q
    have e : chk p 7 = some (8, fb p.ways.length (bad8 p)) := by rw [show chk p 7 = first 8 p.ways.length (bad8 p) from rfl]; unfold first; rw [if_pos q]
    refine Fun.plain (cc) rfl rfl rfl rfl ?_; simp only [hT, eN, ↓If_lit, Int.reduceLT, Int.reduceLE, eA, Nat.beq, List.toArray, reduceAdd, reduceLT, reduceLeDiff, reduceToNat]; (try unfold lim); repeat first | ((with_reducible refine And.intro ?_ ?_); (first | omega | exact ⟨by omega, by omega⟩ | rfl)) | intro _
    rw [res_at (by omega) e o7]; simp only [resAV, eA, Nat.beq, List.toArray, reduceAdd, reduceLT, reduceLeDiff, reduceToNat]; first | exact ⟨rfl, rfl⟩ | rfl | trivial
  have q : ¬fb p.ways.length (bad8 p) < p.ways.length := by simpa using q
  have e : chk p 7 = none := by rw [show chk p 7 = first 8 p.ways.length (bad8 p) from rfl]; unfold first; rw [if_neg q]
  have b7 := first_ok (show first 8 p.ways.length (bad8 p) = none by unfold first; rw [if_neg q])
  have o8 := upto o7 e
  clear q e cc
  (try unfold lim); repeat first | ((with_reducible refine And.intro ?_ ?_); (first | omega | exact ⟨by omega, by omega⟩ | rfl)) | intro _
  refine Fun.plain (l1 p.slots.length 1 12) rfl rfl rfl rfl ?_; simp only [hT, eN, ↓If_lit, Int.reduceLT, Int.reduceLE, eA, Nat.beq, List.toArray, reduceAdd, reduceLT, reduceLeDiff, reduceToNat]; (try unfold lim); repeat first | ((with_reducible refine And.intro ?_ ?_); (first | omega | exact ⟨by omega, by omega⟩ | rfl)) | intro _
  refine ⟨fun q => ?_, fun q => ?_⟩
  · have e : chk p 8 = some (9, 0) := by rw [show chk p 8 = when 9 (decide ((p.slots.length : Int) < 1) || decide (12 < (p.slots.length : Int))) from rfl, when_in, nt q]; rfl
    rw [res_at (by omega) e o8]; simp only [resAV, eA, Nat.beq, List.toArray, reduceAdd, reduceLT, reduceLeDiff, reduceToNat]; first | exact ⟨rfl, rfl⟩ | rfl | trivial
  have e : chk p 8 = none := by rw [show chk p 8 = when 9 (decide ((p.slots.length : Int) < 1) || decide (12 < (p.slots.length : Int))) from rfl, when_in, nf q]; rfl
  have o9 := upto o8 e
  clear q e
  refine wpc_read [0, 1, 2, 3, 4, 5, 6] hm (by kernel_rfl) ?_
  simp only [hT, eT, ↓If_lit, reduceSub, reduceCtorEq, eA, Nat.beq, List.toArray, reduceAdd, reduceLT, reduceLeDiff, reduceToNat]
  have cc := cSlots n hn hn1 hn4 hs h7
  simp only [plnS] at cc
  refine Fun.pcall (cc) (by exact rfl) rfl rfl rfl rfl ?_; simp only [hT, nneg, decide_true, decide_false, ↓If_lit, Int.cast_ofNat_Int, Int.reduceLT, Int.reduceLE, eT, ↓If_lit, reduceSub, reduceCtorEq, eA, Nat.beq, List.toArray, reduceAdd, reduceLT, reduceLeDiff, reduceToNat]; (try unfold lim); repeat first | ((with_reducible refine And.intro ?_ ?_); (first | omega | exact ⟨by omega, by omega⟩ | rfl)) | intro _
  refine ⟨fun q => ?_, fun q => ?_⟩
  · have q : fb p.slots.length (bad10 p) < p.slots.length := by simpa using q
    have e : chk p 9 = some (10, fb p.slots.length (bad10 p)) := by rw [show chk p 9 = first 10 p.slots.length (bad10 p) from rfl]; unfold first; rw [if_pos q]
    refine Fun.plain (cc) rfl rfl rfl rfl ?_; simp only [hT, eN, ↓If_lit, Int.reduceLT, Int.reduceLE, eA, Nat.beq, List.toArray, reduceAdd, reduceLT, reduceLeDiff, reduceToNat]; (try unfold lim); repeat first | ((with_reducible refine And.intro ?_ ?_); (first | omega | exact ⟨by omega, by omega⟩ | rfl)) | intro _
    rw [res_at (by omega) e o9]; simp only [resAV, eA, Nat.beq, List.toArray, reduceAdd, reduceLT, reduceLeDiff, reduceToNat]; first | exact ⟨rfl, rfl⟩ | rfl | trivial
  have q : ¬fb p.slots.length (bad10 p) < p.slots.length := by simpa using q
  have e : chk p 9 = none := by rw [show chk p 9 = first 10 p.slots.length (bad10 p) from rfl]; unfold first; rw [if_neg q]
  have b9 := first_ok (show first 10 p.slots.length (bad10 p) = none by unfold first; rw [if_neg q])
  have o10 := upto o9 e
  clear q e cc
  refine wpc_read [0, 1, 2, 3, 4, 5] hm (by kernel_rfl) ?_
  simp only [hT, hn, eT, ↓If_lit, reduceSub, reduceCtorEq, eA, Nat.beq, List.toArray, reduceAdd, reduceLT, reduceLeDiff, reduceToNat]
  have cc := cDumb n hn hn4 hs
  simp only [plnS] at cc
  simp only [hn] at cc
  refine Fun.pcall (cc) (by exact rfl) rfl rfl rfl rfl ?_; simp only [hT, nneg, decide_true, decide_false, ↓If_lit, Int.cast_ofNat_Int, Int.reduceLT, Int.reduceLE, hn, eT, ↓If_lit, reduceSub, reduceCtorEq, eA, Nat.beq, List.toArray, reduceAdd, reduceLT, reduceLeDiff, reduceToNat]; (try unfold lim); repeat first | ((with_reducible refine And.intro ?_ ?_); (first | omega | exact ⟨by omega, by omega⟩ | rfl)) | intro _
  refine ⟨fun q => ?_, fun q => ?_⟩
  · have q : fb n (bad11 p) < n := by simpa using q
    have e : chk p 10 = some (11, fb n (bad11 p)) := by rw [show chk p 10 = first 11 n (bad11 p) from by unfold chk; rw [hn]; rfl]; unfold first; rw [if_pos q]
    refine Fun.plain (cc) rfl rfl rfl rfl ?_; simp only [hT, eN, ↓If_lit, Int.reduceLT, Int.reduceLE, eA, Nat.beq, List.toArray, reduceAdd, reduceLT, reduceLeDiff, reduceToNat]; (try unfold lim); repeat first | ((with_reducible refine And.intro ?_ ?_); (first | omega | exact ⟨by omega, by omega⟩ | rfl)) | intro _
    rw [res_at (by omega) e o10]; simp only [resAV, eA, Nat.beq, List.toArray, reduceAdd, reduceLT, reduceLeDiff, reduceToNat]; first | exact ⟨rfl, rfl⟩ | rfl | trivial
  have q : ¬fb n (bad11 p) < n := by simpa using q
  have e : chk p 10 = none := by rw [show chk p 10 = first 11 n (bad11 p) from by unfold chk; rw [hn]; rfl]; unfold first; rw [if_neg q]
  have b10 := first_ok (show first 11 n (bad11 p) = none by unfold first; rw [if_neg q])
  have o11 := upto o10 e
  clear q e cc
  refine wpc_read [0, 1, 2, 3, 4, 5, 6] hm (by kernel_rfl) ?_
  simp only [hT, hn, eT, ↓If_lit, reduceSub, reduceCtorEq, eA, Nat.beq, List.toArray, reduceAdd, reduceLT, reduceLeDiff, reduceToNat]
  have cc := cLost b9
  simp only [plnS] at cc
  simp only [hn] at cc
  refine Fun.pcall (cc) (by exact rfl) rfl rfl rfl rfl ?_; simp only [hT, nneg, decide_true, decide_false, ↓If_lit, Int.cast_ofNat_Int, Int.reduceLT, Int.reduceLE, hn, eT, ↓If_lit, reduceSub, reduceCtorEq, eA, Nat.beq, List.toArray, reduceAdd, reduceLT, reduceLeDiff, reduceToNat]; (try unfold lim); repeat first | ((with_reducible refine And.intro ?_ ?_); (first | omega | exact ⟨by omega, by omega⟩ | rfl)) | intro _
  refine ⟨fun q => ?_, fun q => ?_⟩
  · have q : fb p.ways.length (bad12 p) < p.ways.length := by simpa using q
    have e : chk p 11 = some (12, fb p.ways.length (bad12 p)) := by rw [show chk p 11 = first 12 p.ways.length (bad12 p) from rfl]; unfold first; rw [if_pos q]
    refine Fun.plain (cc) rfl rfl rfl rfl ?_; simp only [hT, eN, ↓If_lit, Int.reduceLT, Int.reduceLE, eA, Nat.beq, List.toArray, reduceAdd, reduceLT, reduceLeDiff, reduceToNat]; (try unfold lim); repeat first | ((with_reducible refine And.intro ?_ ?_); (first | omega | exact ⟨by omega, by omega⟩ | rfl)) | intro _
    rw [res_at (by omega) e o11]; simp only [resAV, eA, Nat.beq, List.toArray, reduceAdd, reduceLT, reduceLeDiff, reduceToNat]; first | exact ⟨rfl, rfl⟩ | rfl | trivial
  have q : ¬fb p.ways.length (bad12 p) < p.ways.length := by simpa using q
  have e : chk p 11 = none := by rw [show chk p 11 = first 12 p.ways.length (bad12 p) from rfl]; unfold first; rw [if_neg q]
  have b11 := first_ok (show first 12 p.ways.length (bad12 p) = none by unfold first; rw [if_neg q])
  have o12 := upto o11 e
  clear q e cc
  by_cases ht : p.turns.length = n
  case neg =>
    have e : chk p 12 = some (13, 0) := by rw [chk12, hn, decide_eq_false (by omega)]; rfl
    refine wpc_read [0, 1, 2, 3, 4, 5] hm (by kernel_rfl) ?_
    simp only [hT, hn, eT, ↓If_lit, reduceSub, reduceCtorEq, eA, Nat.beq, List.toArray, reduceAdd, reduceLT, reduceLeDiff, reduceToNat]
    have cc := cTurns n hn hn4 hs
    rw [if_neg ht] at cc
    simp only [plnS] at cc
    simp only [hn] at cc
    refine Fun.pcall (cc) (by exact rfl) rfl rfl rfl rfl ?_; simp only [hT, nneg, decide_true, decide_false, ↓If_lit, Int.cast_ofNat_Int, Int.reduceLT, Int.reduceLE, hn, eT, ↓If_lit, reduceSub, reduceCtorEq, eA, Nat.beq, List.toArray, reduceAdd, reduceLT, reduceLeDiff, reduceToNat]; (try unfold lim); repeat first | ((with_reducible refine And.intro ?_ ?_); (first | omega | exact ⟨by omega, by omega⟩ | rfl)) | intro _
    have h0 : decide (((0 : Nat) : Int) < n) = true := decide_eq_true (by omega)
    refine ⟨fun q => ?_, fun q => ?_⟩
    · refine Fun.plain (cc) rfl rfl rfl rfl ?_; simp only [hT, eN, ↓If_lit, Int.reduceLT, Int.reduceLE, eA, Nat.beq, List.toArray, reduceAdd, reduceLT, reduceLeDiff, reduceToNat]; (try unfold lim); repeat first | ((with_reducible refine And.intro ?_ ?_); (first | omega | exact ⟨by omega, by omega⟩ | rfl)) | intro _
      rw [res_at (by omega) e o12]; simp only [resAV, eA, Nat.beq, List.toArray, reduceAdd, reduceLT, reduceLeDiff, reduceToNat]; first | exact ⟨rfl, rfl⟩ | rfl | trivial
    · exfalso
      have : ¬(((0 : Nat) : Int) < n) := by simpa using q
      omega
  case pos =>
  have cTurns := cTurns n hn hn4 hs
  rw [if_pos ht] at cTurns
  refine wpc_read [0, 1, 2, 3, 4, 5] hm (by kernel_rfl) ?_
  simp only [hT, hn, eT, ↓If_lit, reduceSub, reduceCtorEq, eA, Nat.beq, List.toArray, reduceAdd, reduceLT, reduceLeDiff, reduceToNat]
  have cc := cTurns
  simp only [plnS] at cc
  simp only [hn] at cc
  refine Fun.pcall (cc) (by exact rfl) rfl rfl rfl rfl ?_; simp only [hT, nneg, decide_true, decide_false, ↓If_lit, Int.cast_ofNat_Int, Int.reduceLT, Int.reduceLE, hn, eT, ↓If_lit, reduceSub, reduceCtorEq, eA, Nat.beq, List.toArray, reduceAdd, reduceLT, reduceLeDiff, reduceToNat]; (try unfold lim); repeat first | ((with_reducible refine And.intro ?_ ?_); (first | omega | exact ⟨by omega, by omega⟩ | rfl)) | intro _
  refine ⟨fun q => ?_, fun q => ?_⟩
  · have q : fb n (bad13 p) < n := by simpa using q
    have e : chk p 12 = some (13, fb n (bad13 p)) := by rw [show chk p 12 = first 13 n (bad13 p) from by rw [chk12, hn, decide_eq_true (by omega : (p.turns.length : Int) = n)]; rfl]; unfold first; rw [if_pos q]
    refine Fun.plain (cc) rfl rfl rfl rfl ?_; simp only [hT, eN, ↓If_lit, Int.reduceLT, Int.reduceLE, eA, Nat.beq, List.toArray, reduceAdd, reduceLT, reduceLeDiff, reduceToNat]; (try unfold lim); repeat first | ((with_reducible refine And.intro ?_ ?_); (first | omega | exact ⟨by omega, by omega⟩ | rfl)) | intro _
    rw [res_at (by omega) e o12]; simp only [resAV, eA, Nat.beq, List.toArray, reduceAdd, reduceLT, reduceLeDiff, reduceToNat]; first | exact ⟨rfl, rfl⟩ | rfl | trivial
  have q : ¬fb n (bad13 p) < n := by simpa using q
  have e : chk p 12 = none := by rw [show chk p 12 = first 13 n (bad13 p) from by rw [chk12, hn, decide_eq_true (by omega : (p.turns.length : Int) = n)]; rfl]; unfold first; rw [if_neg q]
  have b12 := first_ok (show first 13 n (bad13 p) = none by unfold first; rw [if_neg q])
  have o13 := upto o12 e
  clear q e cc
  have h5 : ∀ k, k < p.cells.length → has (p.cell k).1 p.turns.length = true := fun k hk => by rw [ht, ← hn]; exact (bad5_has (b4 k hk)).1
  have h13 : ∀ k, k < p.turns.length → (p.turn k).length = p.slots.length := fun k hk => by
    have := b12 k (by omega)
    unfold bad13 at this
    simp only [Bool.or_eq_false_iff, Bool.not_eq_false', decide_eq_true_eq] at this
    omega
  refine wpc_read [0, 1, 2, 3, 4, 5, 6] hm (by kernel_rfl) ?_
  simp only [hT, hn, eT, ↓If_lit, reduceSub, reduceCtorEq, eA, Nat.beq, List.toArray, reduceAdd, reduceLT, reduceLeDiff, reduceToNat]
  have cc := cIdle h5 h13
  simp only [plnS] at cc
  simp only [hn] at cc
  refine Fun.pcall (cc) (by exact rfl) rfl rfl rfl rfl ?_; simp only [hT, nneg, decide_true, decide_false, ↓If_lit, Int.cast_ofNat_Int, Int.reduceLT, Int.reduceLE, hn, eT, ↓If_lit, reduceSub, reduceCtorEq, eA, Nat.beq, List.toArray, reduceAdd, reduceLT, reduceLeDiff, reduceToNat]; (try unfold lim); repeat first | ((with_reducible refine And.intro ?_ ?_); (first | omega | exact ⟨by omega, by omega⟩ | rfl)) | intro _
  refine ⟨fun q => ?_, fun q => ?_⟩
  · have q : fb p.cells.length (bad14 p) < p.cells.length := by simpa using q
    have e : chk p 13 = some (14, fb p.cells.length (bad14 p)) := by rw [show chk p 13 = first 14 p.cells.length (bad14 p) from rfl]; unfold first; rw [if_pos q]
    refine Fun.plain (cc) rfl rfl rfl rfl ?_; simp only [hT, eN, ↓If_lit, Int.reduceLT, Int.reduceLE, eA, Nat.beq, List.toArray, reduceAdd, reduceLT, reduceLeDiff, reduceToNat]; (try unfold lim); repeat first | ((with_reducible refine And.intro ?_ ?_); (first | omega | exact ⟨by omega, by omega⟩ | rfl)) | intro _
    rw [res_at (by omega) e o13]; simp only [resAV, eA, Nat.beq, List.toArray, reduceAdd, reduceLT, reduceLeDiff, reduceToNat]; first | exact ⟨rfl, rfl⟩ | rfl | trivial
  have q : ¬fb p.cells.length (bad14 p) < p.cells.length := by simpa using q
  have e : chk p 13 = none := by rw [show chk p 13 = first 14 p.cells.length (bad14 p) from rfl]; unfold first; rw [if_neg q]
  have b13 := first_ok (show first 14 p.cells.length (bad14 p) = none by unfold first; rw [if_neg q])
  have o14 := upto o13 e
  clear q e cc
  refine wpc_read [0, 1, 2, 3, 4, 5, 6] hm (by kernel_rfl) ?_
  simp only [hT, hn, eT, ↓If_lit, reduceSub, reduceCtorEq, eA, Nat.beq, List.toArray, reduceAdd, reduceLT, reduceLeDiff, reduceToNat]
  have cc := cTakes (fun k hk => (bad5_has (b4 k hk)).2.2)
  simp only [plnS] at cc
  simp only [hn] at cc
  refine Fun.pcall (cc) (by exact rfl) rfl rfl rfl rfl ?_; simp only [hT, nneg, decide_true, decide_false, ↓If_lit, Int.cast_ofNat_Int, Int.reduceLT, Int.reduceLE, hn, eT, ↓If_lit, reduceSub, reduceCtorEq, eA, Nat.beq, List.toArray, reduceAdd, reduceLT, reduceLeDiff, reduceToNat]; (try unfold lim); repeat first | ((with_reducible refine And.intro ?_ ?_); (first | omega | exact ⟨by omega, by omega⟩ | rfl)) | intro _
  refine ⟨fun q => ?_, fun q => ?_⟩
  · have q : fb p.cells.length (bad15 p) < p.cells.length := by simpa using q
    have e : chk p 14 = some (15, fb p.cells.length (bad15 p)) := by rw [show chk p 14 = first 15 p.cells.length (bad15 p) from rfl]; unfold first; rw [if_pos q]
    refine Fun.plain (cc) rfl rfl rfl rfl ?_; simp only [hT, eN, ↓If_lit, Int.reduceLT, Int.reduceLE, eA, Nat.beq, List.toArray, reduceAdd, reduceLT, reduceLeDiff, reduceToNat]; (try unfold lim); repeat first | ((with_reducible refine And.intro ?_ ?_); (first | omega | exact ⟨by omega, by omega⟩ | rfl)) | intro _
    rw [res_at (by omega) e o14]; simp only [resAV, eA, Nat.beq, List.toArray, reduceAdd, reduceLT, reduceLeDiff, reduceToNat]; first | exact ⟨rfl, rfl⟩ | rfl | trivial
  have q : ¬fb p.cells.length (bad15 p) < p.cells.length := by simpa using q
  have e : chk p 14 = none := by rw [show chk p 14 = first 15 p.cells.length (bad15 p) from rfl]; unfold first; rw [if_neg q]
  have b14 := first_ok (show first 15 p.cells.length (bad15 p) = none by unfold first; rw [if_neg q])
  have o15 := upto o14 e
  clear q e cc
  rw [res_none o15]
  simp only [resAV, eA, Nat.beq, List.toArray, reduceAdd, reduceLT, reduceLeDiff, reduceToNat]
  try first | exact ⟨rfl, rfl⟩ | rfl | trivial
theorem chk_code {p : VPln} {i : Nat} {c k : Nat} (h : chk p i = some (c, k)) : 1 ≤ c := by
  have hw : ∀ (a : Nat) (b : Bool), 1 ≤ a → when a b = some (c, k) → 1 ≤ c := by
    intro a b ha h
    cases b with
    | false => cases h
    | true => injection h with h; injection h with h _; omega
  have hf : ∀ (a n : Nat) (bad : Nat → Bool), 1 ≤ a → first a n bad = some (c, k) → 1 ≤ c := by
    intro a n bad ha h
    unfold first at h
    split at h
    · injection h with h; injection h with h _; omega
    · cases h
  unfold chk at h
  split at h
  · exact hw _ _ (by omega) h
  · exact hw _ _ (by omega) h
  · exact hw _ _ (by omega) h
  · exact hw _ _ (by omega) h
  · exact hf _ _ _ (by omega) h
  · exact hw _ _ (by omega) h
  · exact hf _ _ _ (by omega) h
  · exact hf _ _ _ (by omega) h
  · exact hw _ _ (by omega) h
  · exact hf _ _ _ (by omega) h
  · exact hf _ _ _ (by omega) h
  · exact hf _ _ _ (by omega) h
  · revert h
    cases decide ((p.turns.length : Int) = p.1) with
    | true => exact hf _ _ _ (by omega)
    | false => intro h; injection h with h; injection h with h _; omega
  · exact hf _ _ _ (by omega) h
  · exact hf _ _ _ (by omega) h
  · cases h
theorem res_code {p : VPln} {c k : Nat} (h : res p = some (c, k)) : 1 ≤ c := by
  unfold res at h
  obtain ⟨i, _, hi⟩ := List.exists_of_findSome?_eq_some h
  exact chk_code hi
theorem plnOkS {P : Program} [Known P] (hP : P = Tryz.prog) (p : VPln) (hs : Sz p) : Fun P 54 [.agg (plnS p)] (.bool (res p).isNone) := by
  refine fun_of (fn := Tryz.f54) (hP ▸ Tryz.func54) (by kernel_rfl) (by kernel_rfl) (by kernel_rfl) (by kernel_rfl) ?_
  have hT := TY_plnCheckS hP
  have ck := plnCheckS hP p hs
  clear hP
  intro hl
  clear hl
  simp only [plnS] at ck
  have rc := @res_code p
  simp only [plnS, Tryz.f54, hT, eA, Nat.beq, List.toArray, reduceAdd, reduceLT, reduceLeDiff, reduceToNat]
  cases e : res p with
  | none =>
    rw [e] at ck
    refine Fun.plain ck rfl rfl rfl rfl ?_
    simp only [resAV, hT, Option.isNone_none, eA, Nat.beq, List.toArray, reduceAdd, reduceLT, reduceLeDiff, reduceToNat]
    rfl
  | some x =>
    obtain ⟨c, k⟩ := x
    rw [e] at ck
    have := rc e
    refine Fun.plain ck rfl rfl rfl rfl ?_
    simp only [resAV, hT, Option.isNone_some, eA, Nat.beq, List.toArray, reduceAdd, reduceLT, reduceLeDiff, reduceToNat]
    exact decide_eq_false (by omega)
end Go.Proofs.YtjlmfcddbcoimaaGreat.C
