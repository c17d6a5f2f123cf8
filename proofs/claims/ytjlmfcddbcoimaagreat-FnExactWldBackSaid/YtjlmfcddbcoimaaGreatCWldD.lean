/- Whether all nodes are back, by both texts. -/
import Derived.Test.YtjlmfcddbcoimaaGreatCWldB
import Derived.Test.YtjlmfcddbcoimaaGreatCWldC
set_option maxRecDepth 100000
set_option maxHeartbeats 4000000
set_option linter.unusedSimpArgs false
set_option linter.unusedVariables false
namespace Go.Proofs.YtjlmfcddbcoimaaGreat.C
open Go Go.Av Go.Proofs
theorem TY_wldBackI {P : Program} (hP : P = Tryz.prog) : ((((P.follows .mixedOrders = true) ∧ (tyT P 86 = some ((true, 11)))) ∧ ((fldT P 86 1 = some ((7, (false, 1)))) ∧ (tyT P 84 = some ((false, 1))))) ∧ (((lkT P 84 = 1) ∧ (elT P 84 = some ((true, (10, 192))))) ∧ ((tyT P 37 = some ((true, 10))) ∧ (zeroT P 37 = some (((.bool false) :: ((.int .i64 0) :: ((.int .i64 0) :: (.nils :: (.nils :: (.nils :: (.nils :: (.nils :: (.nils :: (.nils :: []))))))))))))))) ∧ ((((fldT P 37 0 = some ((0, (false, 1)))) ∧ (tyT P 4 = some ((false, 1)))) ∧ ((fldT P 37 8 = some ((8, (true, 2)))) ∧ (fldT P 35 0 = some ((0, (false, 1)))))) ∧ (((tyT P 33 = some ((false, 1))) ∧ (elT P 33 = some ((false, (1, 8))))) ∧ ((tyT P 3 = some ((false, 1))) ∧ (fldT P 37 1 = some ((1, (false, 1))))))) := by subst hP; refine ⟨⟨⟨⟨?_, ?_⟩, ⟨?_, ?_⟩⟩, ⟨⟨?_, ?_⟩, ⟨?_, ?_⟩⟩⟩, ⟨⟨⟨?_, ?_⟩, ⟨?_, ?_⟩⟩, ⟨⟨?_, ?_⟩, ⟨?_, ?_⟩⟩⟩⟩ <;> kernel_rfl
theorem wldBackI {P : Program} [Known P] (hP : P = Tryz.prog) (w : VWld) (hw : SzW w) : Fun P 45 [.agg (wldS w)] (.bool (backB w)) := by
  refine fun_of (fn := Tryz.f45) (hP ▸ Tryz.func45) (by kernel_rfl) (by kernel_rfl) (by kernel_rfl) (by kernel_rfl) ?_
  have hT := TY_wldBackI hP
  have hm : P.follows .mixedOrders = true := by subst hP; kernel_rfl
  have oi := wldOkI hP w hw
  clear hP
  intro hl
  clear hl
  simp only [wldS, Tryz.f45, hT, eA, Nat.beq, List.toArray, Nat.reduceAdd, Nat.reduceLT, Nat.reduceLeDiff, Int.reduceToNat]
  simp only [wldS] at oi
  refine Fun.plain (oi) rfl rfl rfl rfl ?_; simp only [hT, nneg, beq_self_eq_true, decide_true, decide_false, ↓If_lit, Int.cast_ofNat_Int, Int.reduceLT, Int.reduceLE, eA, Nat.beq, List.toArray, Nat.reduceAdd, Nat.reduceLT, Nat.reduceLeDiff, Int.reduceToNat]; (try unfold lim); repeat first | ((with_reducible refine And.intro ?_ ?_); (first | omega | exact ⟨by omega, by omega⟩ | rfl)) | intro _
  refine If.mk (fun q => by simp only [Bool.not_eq_true'] at q; unfold backB; rw [q, Bool.false_and]) (fun q => ?_)
  simp only [Bool.not_eq_false'] at q
  have hbn : w.nodes.length ≤ 140737488355328 := by have := hw.n; omega
  have hq := q
  unfold wldB at hq
  simp only [Bool.and_eq_true] at hq
  have hgood : ∀ k, k < w.nodes.length → ((w.node k).heard.1.length : Int) = w.plan.1 := fun k hk => by
    have h1 := rall_get hq.2.1 k hk
    unfold nodeAt goodB at h1
    simp only [Bool.and_eq_true] at h1
    exact life_len h1.1
  have hlen : (w.nodes.length : Int) = w.plan.1 := by
    have h1 := hq.1
    unfold wldHd at h1
    simp only [Bool.and_eq_true, decide_eq_true_eq] at h1
    exact h1.2.1
  clear hq
  repeat intro _
  refine wpc_loop {k : Nat // k ≤ w.nodes.length ∧ (List.range k).all (backRow w) = true} (fun k => ⟨[(1, .cp 0 0 0), (11, .sl 10 (w.nodes.map nodS) nodZ), (12, .int .i64 w.nodes.length), (13, .int .i64 k.1)], [(0, ⟨11, [wldS w], [], true⟩)], 1⟩) (fun k => w.nodes.length - k.1) ⟨0, Nat.zero_le _, rfl⟩ (Le.of [] (Nat.zero_le _) ?_ ?_ ?_) ?_
  · simp only [eL, eH, eG, leO, Nat.beq, Nat.reduceLT]
  · simp only [wldS, eL, eH, eG, leO, Nat.beq, Nat.reduceLT]; first | done | rfl | simp | omega
  · simp only [wldS, eL, eH, eG, leO, Nat.beq, Nat.reduceLT]
  · rintro ⟨k, hk, hp⟩
    by_cases hlt : k < w.nodes.length
    · have hf : decide ((k : Int) < w.nodes.length) = true := decide_eq_true (by omega)
      have hr1 : ∀ d, (w.nodes.map nodS).getD k d = nodS (w.node k) := fun d => getIn nodS w.nodes k d nd0 hlt
      have hta := rall_succ (backRow w) k
      have hab := rall_bad (backRow w) w.nodes.length k hlt
      have bad : backRow w k = false → false = backB w := fun h => by unfold backB; rw [hab h, Bool.and_false]
      have hgk := hgood k hlt
      simp only [nodS] at hr1
      simp only [hT, hf, hr1, wldS, Int.toNat_natCast, ↓If_lit, eA, Nat.beq, List.toArray, Nat.reduceAdd, Nat.reduceLT, Nat.reduceLeDiff, Int.reduceToNat]
      repeat' first | (with_reducible refine And.intro ?_ ?_) | omega
      refine If.mk (fun q1 => bad (by simp only [Bool.not_eq_true'] at q1; unfold backRow; rw [q1, Bool.false_and])) (fun q1 => ?_)
      simp only [Bool.not_eq_false'] at q1
      repeat intro _
      refine wpc_loop {j : Nat // j ≤ w.nodes.length ∧ (List.range j).all (backAt w k) = true} (fun j => ⟨[(1, .cp 0 0 0), (3, .int .i64 k), (4, .cp 1 0 0), (11, .sl 10 (w.nodes.map nodS) nodZ), (12, .int .i64 w.nodes.length), (13, .int .i64 k), (22, .sl 10 (w.nodes.map nodS) nodZ), (23, .int .i64 w.nodes.length), (24, .int .i64 j.1)], [(1, ⟨10, [nodS (w.node k)], [], true⟩), (0, ⟨11, [wldS w], [], true⟩)], 2⟩) (fun j => w.nodes.length - j.1) ⟨0, Nat.zero_le _, rfl⟩ (Le.of [] (Nat.zero_le _) ?_ ?_ ?_) ?_
      · simp only [eL, eH, eG, leO, Nat.beq, Nat.reduceLT]
      · simp only [wldS, nodS, eL, eH, eG, leO, Nat.beq, Nat.reduceLT]; first | done | rfl | simp | omega
      · simp only [wldS, nodS, eL, eH, eG, leO, Nat.beq, Nat.reduceLT]
      · rintro ⟨j, hj, hjp⟩
        by_cases hjt : j < w.nodes.length
        · have hjf : decide ((j : Int) < w.nodes.length) = true := decide_eq_true (by omega)
          have hr2 : ∀ d, (w.nodes.map nodS).getD j d = nodS (w.node j) := fun d => getIn nodS w.nodes j d nd0 hjt
          have hr3 : ∀ d, ((w.node k).heard.1.map intE).getD j d = intE ((w.node k).heard.1.getD j 0) := fun d => getIn intE _ j d 0 (by omega)
          have hja := rall_succ (backAt w k) j
          have hjb := rall_bad (backAt w k) w.nodes.length j hjt
          have hat : backAt w k j = !(!decide ((j : Int) = k) && !decide ((w.node k).heard.1.getD j 0 = (w.node j).boot)) := by
            unfold backAt; rw [Bool.eq_iff_iff]; simp; omega
          have bad2 : backAt w k j = false → false = backB w := fun h => bad (by unfold backRow; rw [hjb h, Bool.and_false])
          simp only [nodS] at hr2
          simp only [hT, hjf, hr2, wldS, nodS, Int.toNat_natCast, ↓If_lit, eA, Nat.beq, List.toArray, Nat.reduceAdd, Nat.reduceLT, Nat.reduceLeDiff, Int.reduceToNat]
          repeat' first | (with_reducible refine And.intro ?_ ?_) | omega
          refine wpc_read [0, 1, 2, 3, 4, 5, 6, 7, 8, 9, 10, 11, 12, 13] hm (by kernel_rfl) ?_
          simp only [hT, hr3, intE, Int.toNat_natCast, ↓If_lit, eT, ↓If_lit, Nat.reduceSub, reduceCtorEq, eA, Nat.beq, List.toArray, Nat.reduceAdd, Nat.reduceLT, Nat.reduceLeDiff, Int.reduceToNat]
          all_goals repeat' first
            | (refine If.mk (fun q => ?_) (fun q => ?_))
            | (show In64 _; exact ⟨by omega, by omega⟩)
            | (with_reducible refine And.intro ?_ ?_)
            | omega
            | (intro _)
          all_goals try simp only [Bool.not_eq_true', Bool.not_eq_false'] at *
          all_goals first
            | (refine bad2 ?_; clear bad bad2; rw [hat]; simp only [*, decide_true, decide_false, Bool.true_or, Bool.or_true, Bool.false_or, Bool.or_false, Bool.not_true, Bool.not_false, Bool.true_and, Bool.and_true, Bool.false_and, Bool.and_false, Bool.and_self, Bool.or_self, Bool.not_not]; done)
            | (have hok : backAt w k j = true := by clear bad bad2; rw [hat]; simp only [*, decide_true, decide_false, Bool.true_or, Bool.or_true, Bool.false_or, Bool.or_false, Bool.not_true, Bool.not_false, Bool.true_and, Bool.and_true, Bool.false_and, Bool.and_false, Bool.and_self, Bool.or_self, Bool.not_not]; done
               refine ⟨⟨j + 1, hjt, by rw [hja, hjp, hok]; rfl⟩, by simp only; omega, Le.of [(0, some 0), (1, some 1)] (Nat.zero_le _) ?_ ?_ ?_⟩
               · simp only [eL, eH, eG, leO, Nat.beq, Nat.reduceLT]
               · simp only [wldS, nodS, eL, eH, eG, leO, Nat.beq, Nat.reduceLT]; first | done | rfl | simp | omega
               · simp only [wldS, nodS, eL, eH, eG, leO, Nat.beq, Nat.reduceLT])
        · obtain rfl : j = w.nodes.length := by omega
          have hjf : decide ((w.nodes.length : Int) < w.nodes.length) = false := decide_eq_false (by omega)
          have hok : backRow w k = true := by unfold backRow; rw [q1, hjp]; rfl
          simp only [hT, hjf, wldS, nodS, ↓If_lit, eA, Nat.beq, List.toArray, Nat.reduceAdd, Nat.reduceLT, Nat.reduceLeDiff, Int.reduceToNat]
          refine ⟨show In64 _ from ⟨by omega, by omega⟩, ⟨k + 1, hlt, by rw [hta, hp, hok]; rfl⟩, by simp only; omega, Le.of [] (Nat.zero_le _) ?_ ?_ ?_⟩
          · simp only [eL, eH, eG, leO, Nat.beq, Nat.reduceLT]
          · simp only [wldS, nodS, eL, eH, eG, leO, Nat.beq, Nat.reduceLT]; first | done | rfl | simp | omega
          · simp only [wldS, nodS, eL, eH, eG, leO, Nat.beq, Nat.reduceLT]
    · obtain rfl : k = w.nodes.length := by omega
      have hf : decide ((w.nodes.length : Int) < w.nodes.length) = false := decide_eq_false (by omega)
      simp only [hT, hf, wldS, ↓If_lit, eA, Nat.beq, List.toArray, Nat.reduceAdd, Nat.reduceLT, Nat.reduceLeDiff, Int.reduceToNat]
      repeat intro _
      unfold backB; rw [q, hp]; rfl
theorem TY_wldBackS {P : Program} (hP : P = Tryz.prog) : (((P.follows .mixedOrders = true) ∧ ((tyT P 86 = some ((true, 11))) ∧ (fldT P 86 1 = some ((7, (false, 1)))))) ∧ (((tyT P 84 = some ((false, 1))) ∧ (lkT P 84 = 1)) ∧ ((elT P 84 = some ((true, (10, 192)))) ∧ (fldT P 37 0 = some ((0, (false, 1))))))) ∧ (((tyT P 4 = some ((false, 1))) ∧ ((fldT P 37 8 = some ((8, (true, 2)))) ∧ (fldT P 35 0 = some ((0, (false, 1)))))) ∧ (((tyT P 33 = some ((false, 1))) ∧ (elT P 33 = some ((false, (1, 8))))) ∧ ((tyT P 3 = some ((false, 1))) ∧ (fldT P 37 1 = some ((1, (false, 1))))))) := by subst hP; refine ⟨⟨⟨?_, ⟨?_, ?_⟩⟩, ⟨⟨?_, ?_⟩, ⟨?_, ?_⟩⟩⟩, ⟨⟨?_, ⟨?_, ?_⟩⟩, ⟨⟨?_, ?_⟩, ⟨?_, ?_⟩⟩⟩⟩ <;> kernel_rfl
theorem wldBackS {P : Program} [Known P] (hP : P = Tryz.prog) (w : VWld) (hw : SzW w) : Fun P 44 [.agg (wldS w)] (.bool (backB w)) := by
  refine fun_of (fn := Tryz.f44) (hP ▸ Tryz.func44) (by kernel_rfl) (by kernel_rfl) (by kernel_rfl) (by kernel_rfl) ?_
  have hT := TY_wldBackS hP
  have hm : P.follows .mixedOrders = true := by subst hP; kernel_rfl
  have oi := wldOkS hP w hw
  clear hP
  intro hl
  clear hl
  simp only [wldS, Tryz.f44, hT, eA, Nat.beq, List.toArray, Nat.reduceAdd, Nat.reduceLT, Nat.reduceLeDiff, Int.reduceToNat]
  simp only [wldS] at oi
  refine Fun.plain (oi) rfl rfl rfl rfl ?_; simp only [hT, nneg, beq_self_eq_true, decide_true, decide_false, ↓If_lit, Int.cast_ofNat_Int, Int.reduceLT, Int.reduceLE, eA, Nat.beq, List.toArray, Nat.reduceAdd, Nat.reduceLT, Nat.reduceLeDiff, Int.reduceToNat]; (try unfold lim); repeat first | ((with_reducible refine And.intro ?_ ?_); (first | omega | exact ⟨by omega, by omega⟩ | rfl)) | intro _
  refine If.mk (fun q => by simp only [Bool.not_eq_true'] at q; unfold backB; rw [q, Bool.false_and]) (fun q => ?_)
  simp only [Bool.not_eq_false'] at q
  have hbn : w.nodes.length ≤ 140737488355328 := by have := hw.n; omega
  have hq := q
  unfold wldB at hq
  simp only [Bool.and_eq_true] at hq
  have hgood : ∀ k, k < w.nodes.length → ((w.node k).heard.1.length : Int) = w.plan.1 := fun k hk => by
    have h1 := rall_get hq.2.1 k hk
    unfold nodeAt goodB at h1
    simp only [Bool.and_eq_true] at h1
    exact life_len h1.1
  have hlen : (w.nodes.length : Int) = w.plan.1 := by
    have h1 := hq.1
    unfold wldHd at h1
    simp only [Bool.and_eq_true, decide_eq_true_eq] at h1
    exact h1.2.1
  clear hq
  repeat intro _
  refine wpc_loop {k : Nat // k ≤ w.nodes.length ∧ (List.range k).all (backRow w) = true} (fun k => ⟨[(1, .cp 0 0 0), (3, .int .i64 k.1)], [(0, ⟨11, [wldS w], [], true⟩)], 1⟩) (fun k => w.nodes.length - k.1) ⟨0, Nat.zero_le _, rfl⟩ (Le.of [] (Nat.zero_le _) ?_ ?_ ?_) ?_
  · simp only [eL, eH, eG, leO, Nat.beq, Nat.reduceLT]
  · simp only [wldS, eL, eH, eG, leO, Nat.beq, Nat.reduceLT]; first | done | rfl | simp | omega
  · simp only [wldS, eL, eH, eG, leO, Nat.beq, Nat.reduceLT]
  · rintro ⟨k, hk, hp⟩
    by_cases hlt : k < w.nodes.length
    · have hf : decide ((k : Int) < w.nodes.length) = true := decide_eq_true (by omega)
      have hr1 : ∀ d, (w.nodes.map nodS).getD k d = nodS (w.node k) := fun d => getIn nodS w.nodes k d nd0 hlt
      have hta := rall_succ (backRow w) k
      have hab := rall_bad (backRow w) w.nodes.length k hlt
      have bad : backRow w k = false → false = backB w := fun h => by unfold backB; rw [hab h, Bool.and_false]
      have hgk := hgood k hlt
      simp only [nodS] at hr1
      simp only [hT, hf, wldS, Int.toNat_natCast, ↓If_lit, eA, Nat.beq, List.toArray, Nat.reduceAdd, Nat.reduceLT, Nat.reduceLeDiff, Int.reduceToNat]
      repeat' first | (with_reducible refine And.intro ?_ ?_) | omega | intro _
      refine wpc_loop {j : Nat // j ≤ w.nodes.length ∧ (List.range j).all (backAt w k) = true ∧ (0 < j → (w.node k).up = true)} (fun j => ⟨[(1, .cp 0 0 0), (3, .int .i64 k), (4, .int .i64 j.1)], [(0, ⟨11, [wldS w], [], true⟩)], 1⟩) (fun j => w.nodes.length - j.1) ⟨0, Nat.zero_le _, rfl, fun h => absurd h (by omega)⟩ (Le.of [] (Nat.zero_le _) ?_ ?_ ?_) ?_
      · simp only [eL, eH, eG, leO, Nat.beq, Nat.reduceLT]
      · simp only [wldS, eL, eH, eG, leO, Nat.beq, Nat.reduceLT]; first | done | rfl | simp | omega
      · simp only [wldS, eL, eH, eG, leO, Nat.beq, Nat.reduceLT]
      · rintro ⟨j, hj, hjp, hju⟩
        by_cases hjt : j < w.nodes.length
        · have hjf : decide ((j : Int) < w.nodes.length) = true := decide_eq_true (by omega)
          have hr2 : ∀ d, (w.nodes.map nodS).getD j d = nodS (w.node j) := fun d => getIn nodS w.nodes j d nd0 hjt
          have hr3 : ∀ d, ((w.node k).heard.1.map intE).getD j d = intE ((w.node k).heard.1.getD j 0) := fun d => getIn intE _ j d 0 (by omega)
          have hja := rall_succ (backAt w k) j
          have hjb := rall_bad (backAt w k) w.nodes.length j hjt
          have hat : backAt w k j = !(!decide ((k : Int) = j) && !decide ((w.node k).heard.1.getD j 0 = (w.node j).boot)) := by
            unfold backAt; rw [Bool.eq_iff_iff]; simp; omega
          have bad2 : backAt w k j = false → false = backB w := fun h => bad (by unfold backRow; rw [hjb h, Bool.and_false])
          simp only [nodS] at hr2
          rcases Bool.eq_false_or_eq_true (w.node k).up with hup | hup
          all_goals simp only [hT, hjf, hup, wldS, Int.toNat_natCast, ↓If_lit, eA, Nat.beq, List.toArray, Nat.reduceAdd, Nat.reduceLT, Nat.reduceLeDiff, Int.reduceToNat]
          all_goals repeat' first | (with_reducible refine And.intro ?_ ?_) | omega | intro _
          all_goals refine wpc_read [0, 1, 2, 3, 4, 5, 6, 7, 8, 9, 10, 11, 12, 13, 14, 15, 16, 17, 18, 19, 20, 21, 22, 23, 24, 25, 26, 27, 28, 29, 30] hm (by kernel_rfl) ?_
          all_goals simp only [hT, hr1, hr2, hr3, hup, intE, Bool.not_true, Bool.not_false, Int.toNat_natCast, ↓If_lit, eT, ↓If_lit, Nat.reduceSub, reduceCtorEq, eA, Nat.beq, List.toArray, Nat.reduceAdd, Nat.reduceLT, Nat.reduceLeDiff, Int.reduceToNat]
          all_goals repeat' first
            | (refine If.mk (fun q => ?_) (fun q => ?_))
            | (show In64 _; exact ⟨by omega, by omega⟩)
            | (with_reducible refine And.intro ?_ ?_)
            | omega
            | (intro _)
          all_goals try simp only [Bool.not_eq_true', Bool.not_eq_false'] at *
          all_goals first
            | (refine bad ?_; unfold backRow; rw [hup, Bool.false_and]; done)
            | (refine bad2 ?_; clear bad bad2; rw [hat]; simp only [*, decide_true, decide_false, Bool.true_or, Bool.or_true, Bool.false_or, Bool.or_false, Bool.not_true, Bool.not_false, Bool.true_and, Bool.and_true, Bool.false_and, Bool.and_false, Bool.and_self, Bool.or_self, Bool.not_not]; done)
            | (have hok : backAt w k j = true := by clear bad bad2; rw [hat]; simp only [*, decide_true, decide_false, Bool.true_or, Bool.or_true, Bool.false_or, Bool.or_false, Bool.not_true, Bool.not_false, Bool.true_and, Bool.and_true, Bool.false_and, Bool.and_false, Bool.and_self, Bool.or_self, Bool.not_not]; done
               refine ⟨⟨j + 1, hjt, by rw [hja, hjp, hok]; rfl, fun _ => hup⟩, by simp only; omega, Le.of [] (Nat.zero_le _) ?_ ?_ ?_⟩
               · simp only [eL, eH, eG, leO, Nat.beq, Nat.reduceLT]
               · simp only [wldS, eL, eH, eG, leO, Nat.beq, Nat.reduceLT]; first | done | rfl | simp | omega
               · simp only [wldS, eL, eH, eG, leO, Nat.beq, Nat.reduceLT])
        · obtain rfl : j = w.nodes.length := by omega
          have hjf : decide ((w.nodes.length : Int) < w.nodes.length) = false := decide_eq_false (by omega)
          have hok : backRow w k = true := by unfold backRow; rw [hju (by omega), hjp]; rfl
          simp only [hT, hjf, wldS, ↓If_lit, eA, Nat.beq, List.toArray, Nat.reduceAdd, Nat.reduceLT, Nat.reduceLeDiff, Int.reduceToNat]
          repeat intro _
          refine ⟨show In64 _ from ⟨by omega, by omega⟩, ⟨k + 1, hlt, by rw [hta, hp, hok]; rfl⟩, by simp only; omega, Le.of [] (Nat.zero_le _) ?_ ?_ ?_⟩
          · simp only [eL, eH, eG, leO, Nat.beq, Nat.reduceLT]
          · simp only [wldS, eL, eH, eG, leO, Nat.beq, Nat.reduceLT]; first | done | rfl | simp | omega
          · simp only [wldS, eL, eH, eG, leO, Nat.beq, Nat.reduceLT]
    · obtain rfl : k = w.nodes.length := by omega
      have hf : decide ((w.nodes.length : Int) < w.nodes.length) = false := decide_eq_false (by omega)
      simp only [hT, hf, wldS, ↓If_lit, eA, Nat.beq, List.toArray, Nat.reduceAdd, Nat.reduceLT, Nat.reduceLeDiff, Int.reduceToNat]
      repeat intro _
      unfold backB; rw [q, hp]; rfl
end Go.Proofs.YtjlmfcddbcoimaaGreat.C
