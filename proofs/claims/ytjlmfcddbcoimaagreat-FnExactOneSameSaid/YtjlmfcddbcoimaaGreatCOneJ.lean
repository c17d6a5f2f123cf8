/- Boxes and sights that are the same, by both texts. -/
import Derived.Test.YtjlmfcddbcoimaaGreatCOneD
import Derived.Test.YtjlmfcddbcoimaaGreatCNodV
set_option maxRecDepth 100000
set_option maxHeartbeats 4000000
set_option linter.unusedSimpArgs false
set_option linter.unusedVariables false
namespace Go.Proofs.YtjlmfcddbcoimaaGreat.C
open Go Go.Av Go.Proofs
theorem range_eq {α : Type} [DecidableEq α] (l r : List α) (d : α) (h : l.length = r.length) : (List.range l.length).all (fun k => decide (l.getD k d = r.getD k d)) = decide (l = r) := by
  rw [Bool.eq_iff_iff, List.all_eq_true, decide_eq_true_eq]
  refine ⟨fun hk => List.ext_getElem h fun i h1 h2 => ?_, fun e k _ => by rw [e]; exact decide_eq_true rfl⟩
  have := hk i (by simpa using h1)
  rw [decide_eq_true_eq, List.getD_eq_getElem?_getD, List.getD_eq_getElem?_getD, List.getElem?_eq_getElem h1, List.getElem?_eq_getElem h2] at this
  exact this
def msgAt (l r : List (List UInt8)) (k : Nat) : Bool := decide (l.getD k [] = r.getD k [])
theorem boxEq_iff (a b : VBox) : decide (a = b) = (decide (a.1 = b.1) && decide (a.2.1 = b.2.1)) := by
  obtain ⟨x, l, u⟩ := a
  obtain ⟨y, r, v⟩ := b
  rw [Bool.eq_iff_iff]; simp
def sigAt (l r : List VSig) (k : Nat) : Bool := decide (l.getD k sig0 = r.getD k sig0)
theorem sigEq_iff (a b : VSig) : decide (a = b) = (decide (a.1 = b.1) && (decide (a.2.1 = b.2.1) && decide (a.2.2.1 = b.2.2.1))) := by
  obtain ⟨x, l, m, u⟩ := a
  obtain ⟨y, r, n, v⟩ := b
  rw [Bool.eq_iff_iff]; simp
theorem strEq (l r : List UInt8) : decide ((⟨l.toArray⟩ : ByteArray) = ⟨r.toArray⟩) = decide (l = r) := decide_eq_decide.2 ⟨fun h => by simpa using h, fun h => by rw [h]⟩
theorem TY_boxSameI {P : Program} (hP : P = Tryz.prog) : (((P.follows .mixedOrders = true) ∧ ((fldT P 163 0 = some ((0, (false, 1)))) ∧ (tyT P 3 = some ((false, 1))))) ∧ ((fldT P 163 1 = some ((1, (false, 1)))) ∧ ((tyT P 79 = some ((false, 1))) ∧ (lkT P 79 = 1)))) ∧ (((elT P 79 = some ((false, (1, 24)))) ∧ ((tyT P 149 = some ((false, 1))) ∧ (utT P 149 = true))) ∧ ((intT P 9 = none) ∧ ((lkT P 9 = 2) ∧ (byT P 149 = true)))) := by subst hP; refine ⟨⟨⟨?_, ⟨?_, ?_⟩⟩, ⟨?_, ⟨?_, ?_⟩⟩⟩, ⟨⟨?_, ⟨?_, ?_⟩⟩, ⟨?_, ⟨?_, ?_⟩⟩⟩⟩ <;> kernel_rfl
theorem boxSameI {P : Program} [Known P] (hP : P = Tryz.prog) (a b : VBox) : Fun P 128 [.agg (boxS a), .agg (boxS b)] (.bool (decide (a = b))) := by
  refine fun_of (fn := Tryz.f128) (hP ▸ Tryz.func128) (by kernel_rfl) (by kernel_rfl) (by kernel_rfl) (by kernel_rfl) ?_
  have hT := TY_boxSameI hP
  have hm : P.follows .mixedOrders = true := by subst hP; kernel_rfl
  clear hP
  intro hl
  have ha0 : a.2.1.length ≤ lim := by have := hl.1 (.sl 1 (a.2.1.map msgS) msgZ) (by simp [boxS]); simpa only [limA, List.length_map] using this
  have hb0 : b.2.1.length ≤ lim := by have := hl.2.1 (.sl 1 (b.2.1.map msgS) msgZ) (by simp [boxS]); simpa only [limA, List.length_map] using this
  clear hl
  simp only [boxS, Tryz.f128, hT, eA, Nat.beq, List.toArray, Nat.reduceAdd, Nat.reduceLT, Nat.reduceLeDiff, Int.reduceToNat]
  have hal : a.2.1.length ≤ 140737488355328 := ha0
  have hbl : b.2.1.length ≤ 140737488355328 := hb0
  rw [boxEq_iff]
  have bad : decide (a.1 = b.1) = false → false = (decide (a.1 = b.1) && decide (a.2.1 = b.2.1)) := fun h => by rw [h]; rfl
  have bad1 : decide ((a.2.1.length : Int) = b.2.1.length) = false → false = (decide (a.1 = b.1) && decide (a.2.1 = b.2.1)) := fun h => by
    rw [decide_eq_false (p := a.2.1 = b.2.1) (fun e => by rw [e] at h; simp at h), Bool.and_false]
  all_goals repeat' first
    | (refine If.mk (fun q => ?_) (fun q => ?_))
    | (show In64 _; exact ⟨by omega, by omega⟩)
    | (with_reducible refine And.intro ?_ ?_)
    | omega
    | assumption
    | (intro _)
  all_goals (try simp only [Bool.not_eq_true', Bool.not_eq_false'] at *)
  all_goals first
    | (refine bad ?_; assumption)
    | (refine bad1 ?_; assumption)
    | skip
  have h1 : decide (a.1 = b.1) = true := by assumption
  have h2 : decide ((a.2.1.length : Int) = b.2.1.length) = true := by assumption
  have hlen : a.2.1.length = b.2.1.length := by have := of_decide_eq_true h2; omega
  clear bad bad1
  rw [h1, Bool.true_and, ← range_eq a.2.1 b.2.1 [] hlen]
  have bad2 : (List.range a.2.1.length).all (msgAt a.2.1 b.2.1) = false → false = (List.range a.2.1.length).all (fun k => decide (a.2.1.getD k [] = b.2.1.getD k [])) := fun h => h.symm
  refine wpc_loop {k : Nat // k ≤ a.2.1.length ∧ (List.range k).all (msgAt a.2.1 b.2.1) = true} (fun k => ⟨[(3, .cp 1 0 0), (22, .sl 1 (a.2.1.map msgS) msgZ), (23, .int .i64 a.2.1.length), (24, .int .i64 k.1)], [(1, ⟨2, [boxS b], [], true⟩), (0, ⟨2, [boxS a], [], true⟩)], 2⟩) (fun k => a.2.1.length - k.1) ⟨0, Nat.zero_le _, rfl⟩ (Le.of [] (Nat.zero_le _) ?_ ?_ ?_) ?_
  · simp only [eL, eH, eG, leO, Nat.beq, Nat.reduceLT]
  · simp only [boxS, eL, eH, eG, leO, Nat.beq, Nat.reduceLT]; first | done | rfl | simp | omega
  · simp only [boxS, eL, eH, eG, leO, Nat.beq, Nat.reduceLT]
  · rintro ⟨k, hk, hp⟩
    by_cases hlt : k < a.2.1.length
    · have hf : decide ((k : Int) < a.2.1.length) = true := decide_eq_true (by omega)
      have hr1 : ∀ d, (a.2.1.map msgS).getD k d = msgS (a.2.1.getD k []) := fun d => getIn msgS a.2.1 k d [] hlt
      have hr2 : ∀ d, (b.2.1.map msgS).getD k d = msgS (b.2.1.getD k []) := fun d => getIn msgS b.2.1 k d [] (by omega)
      have hta := rall_succ (msgAt a.2.1 b.2.1) k
      have hab := rall_bad (msgAt a.2.1 b.2.1) a.2.1.length k hlt
      have hat : msgAt a.2.1 b.2.1 k = decide (a.2.1.getD k [] = b.2.1.getD k []) := rfl
      simp only [msgS] at hr1 hr2
      simp only [hT, hf, hr1, boxS, Int.toNat_natCast, ↓If_lit, eA, Nat.beq, List.toArray, Nat.reduceAdd, Nat.reduceLT, Nat.reduceLeDiff, Int.reduceToNat]
      repeat' first | (with_reducible refine And.intro ?_ ?_) | omega | intro _
      refine wpc_read [0, 1, 2, 3, 4, 5, 6, 7, 8] hm (by kernel_rfl) ?_
      simp only [hT, hr1, hr2, Int.toNat_natCast, ↓If_lit, eT, ↓If_lit, Nat.reduceSub, reduceCtorEq, eA, Nat.beq, List.toArray, Nat.reduceAdd, Nat.reduceLT, Nat.reduceLeDiff, Int.reduceToNat]
      have hbad : msgAt a.2.1 b.2.1 k = false → false = (List.range a.2.1.length).all (fun k => decide (a.2.1.getD k [] = b.2.1.getD k [])) := fun e => by exact bad2 (hab e)
      all_goals repeat' first
        | (refine If.mk (fun q => ?_) (fun q => ?_))
        | (show In64 _; exact ⟨by omega, by omega⟩)
        | (with_reducible refine And.intro ?_ ?_)
        | omega
        | (intro _)
      all_goals clear hr1 hr2 hT hm
      all_goals try simp only [Bool.not_eq_true', Bool.not_eq_false'] at *
      all_goals first
        | exact hbad (by clear hbad; clear bad2 hab hta hp hlt hf hk hlen h1 h2; rw [hat]; first | assumption | (simp only [strEq] at *; assumption))
        | (have hok : msgAt a.2.1 b.2.1 k = true := by clear hbad; clear bad2 hab hta hp hlt hf hk hlen h1 h2; rw [hat]; first | assumption | (simp only [strEq] at *; assumption)
           try refine And.intro (show In64 _ from ⟨by omega, by omega⟩) ?_
           refine ⟨⟨k + 1, hlt, by rw [hta, hp, hok]; rfl⟩, by simp only; omega, Le.of [] (Nat.zero_le _) ?_ ?_ ?_⟩
           · simp only [eL, eH, eG, leO, Nat.beq, Nat.reduceLT]
           · simp only [boxS, eL, eH, eG, leO, Nat.beq, Nat.reduceLT]; first | done | rfl | simp | omega
           · simp only [boxS, eL, eH, eG, leO, Nat.beq, Nat.reduceLT])
    · obtain rfl : k = a.2.1.length := by omega
      have hf : decide ((a.2.1.length : Int) < a.2.1.length) = false := decide_eq_false (by omega)
      simp only [hT, hf, boxS, ↓If_lit, eA, Nat.beq, List.toArray, Nat.reduceAdd, Nat.reduceLT, Nat.reduceLeDiff, Int.reduceToNat]
      repeat intro _
      exact hp.symm
theorem TY_boxSameS {P : Program} (hP : P = Tryz.prog) : (((P.follows .mixedOrders = true) ∧ (fldT P 163 0 = some ((0, (false, 1))))) ∧ ((tyT P 3 = some ((false, 1))) ∧ (fldT P 163 1 = some ((1, (false, 1)))))) ∧ (((tyT P 79 = some ((false, 1))) ∧ (lkT P 79 = 1)) ∧ ((elT P 79 = some ((false, (1, 24)))) ∧ (tyT P 149 = some ((false, 1))))) := by subst hP; refine ⟨⟨⟨?_, ?_⟩, ⟨?_, ?_⟩⟩, ⟨⟨?_, ?_⟩, ⟨?_, ?_⟩⟩⟩ <;> kernel_rfl
theorem boxSameS {P : Program} [Known P] (hP : P = Tryz.prog) (a b : VBox) : Fun P 209 [.agg (boxS a), .agg (boxS b)] (.bool (decide (a = b))) := by
  refine fun_of (fn := Tryz.f209) (hP ▸ Tryz.func209) (by kernel_rfl) (by kernel_rfl) (by kernel_rfl) (by kernel_rfl) ?_
  have hT := TY_boxSameS hP
  have hm : P.follows .mixedOrders = true := by subst hP; kernel_rfl
  have sb := fun l r => sameBytesS hP l r
  clear hP
  intro hl
  have ha0 : a.2.1.length ≤ lim := by have := hl.1 (.sl 1 (a.2.1.map msgS) msgZ) (by simp [boxS]); simpa only [limA, List.length_map] using this
  have hb0 : b.2.1.length ≤ lim := by have := hl.2.1 (.sl 1 (b.2.1.map msgS) msgZ) (by simp [boxS]); simpa only [limA, List.length_map] using this
  clear hl
  simp only [boxS, Tryz.f209, hT, eA, Nat.beq, List.toArray, Nat.reduceAdd, Nat.reduceLT, Nat.reduceLeDiff, Int.reduceToNat]
  have hal : a.2.1.length ≤ 140737488355328 := ha0
  have hbl : b.2.1.length ≤ 140737488355328 := hb0
  rw [boxEq_iff]
  have bad : decide (a.1 = b.1) = false → false = (decide (a.1 = b.1) && decide (a.2.1 = b.2.1)) := fun h => by rw [h]; rfl
  have bad1 : decide ((a.2.1.length : Int) = b.2.1.length) = false → false = (decide (a.1 = b.1) && decide (a.2.1 = b.2.1)) := fun h => by
    rw [decide_eq_false (p := a.2.1 = b.2.1) (fun e => by rw [e] at h; simp at h), Bool.and_false]
  all_goals repeat' first
    | (refine If.mk (fun q => ?_) (fun q => ?_))
    | (show In64 _; exact ⟨by omega, by omega⟩)
    | (with_reducible refine And.intro ?_ ?_)
    | omega
    | assumption
    | (intro _)
  all_goals (try simp only [Bool.not_eq_true', Bool.not_eq_false'] at *)
  all_goals first
    | (refine bad ?_; assumption)
    | (refine bad1 ?_; assumption)
    | skip
  have h1 : decide (a.1 = b.1) = true := by assumption
  have h2 : decide ((a.2.1.length : Int) = b.2.1.length) = true := by assumption
  have hlen : a.2.1.length = b.2.1.length := by have := of_decide_eq_true h2; omega
  clear bad bad1
  rw [h1, Bool.true_and, ← range_eq a.2.1 b.2.1 [] hlen]
  have bad2 : (List.range a.2.1.length).all (msgAt a.2.1 b.2.1) = false → false = (List.range a.2.1.length).all (fun k => decide (a.2.1.getD k [] = b.2.1.getD k [])) := fun h => h.symm
  refine wpc_loop {k : Nat // k ≤ a.2.1.length ∧ (List.range k).all (msgAt a.2.1 b.2.1) = true} (fun k => ⟨[(2, .cp 0 0 0), (3, .cp 1 0 0), (5, .int .i64 k.1)], [(1, ⟨2, [boxS b], [], true⟩), (0, ⟨2, [boxS a], [], true⟩)], 2⟩) (fun k => a.2.1.length - k.1) ⟨0, Nat.zero_le _, rfl⟩ (Le.of [] (Nat.zero_le _) ?_ ?_ ?_) ?_
  · simp only [eL, eH, eG, leO, Nat.beq, Nat.reduceLT]
  · simp only [boxS, eL, eH, eG, leO, Nat.beq, Nat.reduceLT]; first | done | rfl | simp | omega
  · simp only [boxS, eL, eH, eG, leO, Nat.beq, Nat.reduceLT]
  · rintro ⟨k, hk, hp⟩
    by_cases hlt : k < a.2.1.length
    · have hf : decide ((k : Int) < a.2.1.length) = true := decide_eq_true (by omega)
      have hr1 : ∀ d, (a.2.1.map msgS).getD k d = msgS (a.2.1.getD k []) := fun d => getIn msgS a.2.1 k d [] hlt
      have hr2 : ∀ d, (b.2.1.map msgS).getD k d = msgS (b.2.1.getD k []) := fun d => getIn msgS b.2.1 k d [] (by omega)
      have hta := rall_succ (msgAt a.2.1 b.2.1) k
      have hab := rall_bad (msgAt a.2.1 b.2.1) a.2.1.length k hlt
      have hat : msgAt a.2.1 b.2.1 k = decide (a.2.1.getD k [] = b.2.1.getD k []) := rfl
      have ex := sb (a.2.1.getD k []) (b.2.1.getD k [])
      rw [← hat] at ex
      simp only [msgS] at hr1 hr2
      simp only [hT, hf, hr1, boxS, Int.toNat_natCast, ↓If_lit, eA, Nat.beq, List.toArray, Nat.reduceAdd, Nat.reduceLT, Nat.reduceLeDiff, Int.reduceToNat]
      repeat' first | (with_reducible refine And.intro ?_ ?_) | omega | intro _
      refine wpc_read [0, 1, 2, 3, 4, 5, 6, 7, 8, 9, 10, 11] hm (by kernel_rfl) ?_
      simp only [hT, hr1, hr2, Int.toNat_natCast, ↓If_lit, eT, ↓If_lit, Nat.reduceSub, reduceCtorEq, eA, Nat.beq, List.toArray, Nat.reduceAdd, Nat.reduceLT, Nat.reduceLeDiff, Int.reduceToNat]
      have hbad : msgAt a.2.1 b.2.1 k = false → false = (List.range a.2.1.length).all (fun k => decide (a.2.1.getD k [] = b.2.1.getD k [])) := fun e => by exact bad2 (hab e)
      all_goals repeat' first
        | (refine If.mk (fun q => ?_) (fun q => ?_))
        | (show In64 _; exact ⟨by omega, by omega⟩)
        | (with_reducible refine And.intro ?_ ?_)
        | omega
        | (refine Fun.pcall (ex) (by exact rfl) rfl rfl rfl rfl ?_; simp only [hT, Int.toNat_natCast, ↓If_lit, eT, ↓If_lit, Nat.reduceSub, reduceCtorEq, eA, Nat.beq, List.toArray, Nat.reduceAdd, Nat.reduceLT, Nat.reduceLeDiff, Int.reduceToNat])
        | (intro _)
      all_goals clear hr1 hr2 hT hm
      all_goals try simp only [Bool.not_eq_true', Bool.not_eq_false'] at *
      all_goals first
        | exact hbad (by clear hbad; clear bad2 hab hta hp hlt hf hk hlen h1 h2; rw [hat]; first | assumption | (simp only [strEq] at *; assumption))
        | (have hok : msgAt a.2.1 b.2.1 k = true := by clear hbad; clear bad2 hab hta hp hlt hf hk hlen h1 h2; rw [hat]; first | assumption | (simp only [strEq] at *; assumption)
           try refine And.intro (show In64 _ from ⟨by omega, by omega⟩) ?_
           refine ⟨⟨k + 1, hlt, by rw [hta, hp, hok]; rfl⟩, by simp only; omega, Le.of [] (Nat.zero_le _) ?_ ?_ ?_⟩
           · simp only [eL, eH, eG, leO, Nat.beq, Nat.reduceLT]
           · simp only [boxS, eL, eH, eG, leO, Nat.beq, Nat.reduceLT]; first | done | rfl | simp | omega
           · simp only [boxS, eL, eH, eG, leO, Nat.beq, Nat.reduceLT])
    · obtain rfl : k = a.2.1.length := by omega
      have hf : decide ((a.2.1.length : Int) < a.2.1.length) = false := decide_eq_false (by omega)
      simp only [hT, hf, boxS, ↓If_lit, eA, Nat.beq, List.toArray, Nat.reduceAdd, Nat.reduceLT, Nat.reduceLeDiff, Int.reduceToNat]
      repeat intro _
      exact hp.symm
theorem TY_sawI {P : Program} (hP : P = Tryz.prog) : (((P.follows .mixedOrders = true) ∧ ((lkT P 143 = 1) ∧ (elT P 143 = some ((true, (3, 40)))))) ∧ (((tyT P 249 = some ((true, 3))) ∧ (zeroT P 249 = some (((.int .i64 0) :: ((.int .i64 0) :: (.nils :: [])))))) ∧ ((fldT P 249 0 = some ((0, (false, 1)))) ∧ (tyT P 3 = some ((false, 1)))))) ∧ (((fldT P 249 1 = some ((1, (false, 1)))) ∧ ((fldT P 249 2 = some ((2, (false, 1)))) ∧ (tyT P 149 = some ((false, 1))))) ∧ (((utT P 149 = true) ∧ (intT P 9 = none)) ∧ ((lkT P 9 = 2) ∧ (byT P 149 = true)))) := by subst hP; refine ⟨⟨⟨?_, ⟨?_, ?_⟩⟩, ⟨⟨?_, ?_⟩, ⟨?_, ?_⟩⟩⟩, ⟨⟨?_, ⟨?_, ?_⟩⟩, ⟨⟨?_, ?_⟩, ⟨?_, ?_⟩⟩⟩⟩ <;> kernel_rfl
theorem sawI {P : Program} [Known P] (hP : P = Tryz.prog) (l r : List VSig) : Fun P 127 [.sl 3 (l.map sigS) sigZ, .sl 3 (r.map sigS) sigZ] (.bool (decide (l = r))) := by
  refine fun_of (fn := Tryz.f127) (hP ▸ Tryz.func127) (by kernel_rfl) (by kernel_rfl) (by kernel_rfl) (by kernel_rfl) ?_
  have hT := TY_sawI hP
  have hm : P.follows .mixedOrders = true := by subst hP; kernel_rfl
  clear hP
  intro hl
  simp only [limL, limA, List.length_map, and_true] at hl
  obtain ⟨hl0, hr0⟩ := hl
  have hl : True := trivial
  clear hl
  simp only [Tryz.f127, hT, eA, Nat.beq, List.toArray, Nat.reduceAdd, Nat.reduceLT, Nat.reduceLeDiff, Int.reduceToNat]
  have hll : l.length ≤ 140737488355328 := hl0
  have hrl : r.length ≤ 140737488355328 := hr0
  have bad1 : decide ((l.length : Int) = r.length) = false → false = decide (l = r) := fun h => by
    rw [decide_eq_false (p := l = r) (fun e => by rw [e] at h; simp at h)]
  all_goals repeat' first
    | (refine If.mk (fun q => ?_) (fun q => ?_))
    | (show In64 _; exact ⟨by omega, by omega⟩)
    | (with_reducible refine And.intro ?_ ?_)
    | omega
    | assumption
    | (intro _)
  all_goals (try simp only [Bool.not_eq_true', Bool.not_eq_false'] at *)
  all_goals first
    | (refine bad1 ?_; assumption)
    | skip
  have h2 : decide ((l.length : Int) = r.length) = true := by assumption
  have hlen : l.length = r.length := by have := of_decide_eq_true h2; omega
  clear bad1
  rw [← range_eq l r sig0 hlen]
  have bad2 : (List.range l.length).all (sigAt l r) = false → false = (List.range l.length).all (fun k => decide (l.getD k sig0 = r.getD k sig0)) := fun h => h.symm
  refine wpc_loop {k : Nat // k ≤ l.length ∧ (List.range k).all (sigAt l r) = true} (fun k => ⟨[(1, .sl 3 (r.map sigS) sigZ), (12, .sl 3 (l.map sigS) sigZ), (13, .int .i64 l.length), (14, .int .i64 k.1)], [], 0⟩) (fun k => l.length - k.1) ⟨0, Nat.zero_le _, rfl⟩ (Le.of [] (Nat.zero_le _) ?_ ?_ ?_) ?_
  · simp only [eL, eH, eG, leO, Nat.beq, Nat.reduceLT]
  · simp only [eL, eH, eG, leO, Nat.beq, Nat.reduceLT]; first | done | rfl | simp | omega
  · simp only [eL, eH, eG, leO, Nat.beq, Nat.reduceLT]
  · rintro ⟨k, hk, hp⟩
    by_cases hlt : k < l.length
    · have hf : decide ((k : Int) < l.length) = true := decide_eq_true (by omega)
      have hr1 : ∀ d, (l.map sigS).getD k d = sigS (l.getD k sig0) := fun d => getIn sigS l k d sig0 hlt
      have hr2 : ∀ d, (r.map sigS).getD k d = sigS (r.getD k sig0) := fun d => getIn sigS r k d sig0 (by omega)
      have hta := rall_succ (sigAt l r) k
      have hab := rall_bad (sigAt l r) l.length k hlt
      have hat : sigAt l r k = !(!decide ((l.getD k sig0).1 = (r.getD k sig0).1) || (!decide ((l.getD k sig0).2.1 = (r.getD k sig0).2.1) || !decide ((l.getD k sig0).2.2.1 = (r.getD k sig0).2.2.1))) := by
        unfold sigAt; rw [sigEq_iff]; simp only [Bool.not_or, Bool.not_not]
      simp only [sigS] at hr1 hr2
      simp only [hT, hf, hr1, Int.toNat_natCast, ↓If_lit, eA, Nat.beq, List.toArray, Nat.reduceAdd, Nat.reduceLT, Nat.reduceLeDiff, Int.reduceToNat]
      repeat' first | (with_reducible refine And.intro ?_ ?_) | omega | intro _
      refine wpc_read [0, 1, 2, 3, 4, 5, 6, 7, 8, 9, 10, 11, 12, 13, 14, 15, 16, 17, 18, 19, 20, 21, 22, 23, 24, 25, 26, 27, 28, 29] hm (by kernel_rfl) ?_
      simp only [hT, hr1, hr2, Int.toNat_natCast, ↓If_lit, eT, ↓If_lit, Nat.reduceSub, reduceCtorEq, eA, Nat.beq, List.toArray, Nat.reduceAdd, Nat.reduceLT, Nat.reduceLeDiff, Int.reduceToNat]
      have hbad : sigAt l r k = false → false = (List.range l.length).all (fun k => decide (l.getD k sig0 = r.getD k sig0)) := fun e => by exact bad2 (hab e)
      all_goals repeat' first
        | (refine If.mk (fun q => ?_) (fun q => ?_))
        | (show In64 _; exact ⟨by omega, by omega⟩)
        | (with_reducible refine And.intro ?_ ?_)
        | omega
        | (intro _)
      all_goals clear hr1 hr2 hT hm
      all_goals try simp only [Bool.not_eq_true', Bool.not_eq_false'] at *
      all_goals first
        | exact hbad (by clear hbad; clear bad2 hab hta hp hlt hf hk hlen h2; rw [hat]; (try simp only [strEq] at *); simp only [*, decide_true, decide_false, Bool.true_or, Bool.or_true, Bool.false_or, Bool.or_false, Bool.not_true, Bool.not_false, Bool.true_and, Bool.and_true, Bool.false_and, Bool.and_false, Bool.and_self, Bool.or_self, Bool.not_not]; done)
        | (have hok : sigAt l r k = true := by clear hbad; clear bad2 hab hta hp hlt hf hk hlen h2; rw [hat]; (try simp only [strEq] at *); simp only [*, decide_true, decide_false, Bool.true_or, Bool.or_true, Bool.false_or, Bool.or_false, Bool.not_true, Bool.not_false, Bool.true_and, Bool.and_true, Bool.false_and, Bool.and_false, Bool.and_self, Bool.or_self, Bool.not_not]; done
           try refine And.intro (show In64 _ from ⟨by omega, by omega⟩) ?_
           refine ⟨⟨k + 1, hlt, by rw [hta, hp, hok]; rfl⟩, by simp only; omega, Le.of [] (Nat.zero_le _) ?_ ?_ ?_⟩
           · simp only [eL, eH, eG, leO, Nat.beq, Nat.reduceLT]
           · simp only [eL, eH, eG, leO, Nat.beq, Nat.reduceLT]; first | done | rfl | simp | omega
           · simp only [eL, eH, eG, leO, Nat.beq, Nat.reduceLT])
    · obtain rfl : k = l.length := by omega
      have hf : decide ((l.length : Int) < l.length) = false := decide_eq_false (by omega)
      simp only [hT, hf, ↓If_lit, eA, Nat.beq, List.toArray, Nat.reduceAdd, Nat.reduceLT, Nat.reduceLeDiff, Int.reduceToNat]
      repeat intro _
      exact hp.symm
theorem TY_sawS {P : Program} (hP : P = Tryz.prog) : (((P.follows .mixedOrders = true) ∧ (lkT P 143 = 1)) ∧ ((elT P 143 = some ((true, (3, 40)))) ∧ (fldT P 249 0 = some ((0, (false, 1)))))) ∧ (((tyT P 3 = some ((false, 1))) ∧ (fldT P 249 1 = some ((1, (false, 1))))) ∧ ((fldT P 249 2 = some ((2, (false, 1)))) ∧ (tyT P 149 = some ((false, 1))))) := by subst hP; refine ⟨⟨⟨?_, ?_⟩, ⟨?_, ?_⟩⟩, ⟨⟨?_, ?_⟩, ⟨?_, ?_⟩⟩⟩ <;> kernel_rfl
theorem sawS {P : Program} [Known P] (hP : P = Tryz.prog) (l r : List VSig) : Fun P 124 [.sl 3 (l.map sigS) sigZ, .sl 3 (r.map sigS) sigZ] (.bool (decide (l = r))) := by
  refine fun_of (fn := Tryz.f124) (hP ▸ Tryz.func124) (by kernel_rfl) (by kernel_rfl) (by kernel_rfl) (by kernel_rfl) ?_
  have hT := TY_sawS hP
  have hm : P.follows .mixedOrders = true := by subst hP; kernel_rfl
  have sb := fun l r => sameBytesS hP l r
  clear hP
  intro hl
  simp only [limL, limA, List.length_map, and_true] at hl
  obtain ⟨hl0, hr0⟩ := hl
  have hl : True := trivial
  clear hl
  simp only [Tryz.f124, hT, eA, Nat.beq, List.toArray, Nat.reduceAdd, Nat.reduceLT, Nat.reduceLeDiff, Int.reduceToNat]
  have hll : l.length ≤ 140737488355328 := hl0
  have hrl : r.length ≤ 140737488355328 := hr0
  have bad1 : decide ((l.length : Int) = r.length) = false → false = decide (l = r) := fun h => by
    rw [decide_eq_false (p := l = r) (fun e => by rw [e] at h; simp at h)]
  all_goals repeat' first
    | (refine If.mk (fun q => ?_) (fun q => ?_))
    | (show In64 _; exact ⟨by omega, by omega⟩)
    | (with_reducible refine And.intro ?_ ?_)
    | omega
    | assumption
    | (intro _)
  all_goals (try simp only [Bool.not_eq_true', Bool.not_eq_false'] at *)
  all_goals first
    | (refine bad1 ?_; assumption)
    | skip
  have h2 : decide ((l.length : Int) = r.length) = true := by assumption
  have hlen : l.length = r.length := by have := of_decide_eq_true h2; omega
  clear bad1
  rw [← range_eq l r sig0 hlen]
  have bad2 : (List.range l.length).all (sigAt l r) = false → false = (List.range l.length).all (fun k => decide (l.getD k sig0 = r.getD k sig0)) := fun h => h.symm
  refine wpc_loop {k : Nat // k ≤ l.length ∧ (List.range k).all (sigAt l r) = true} (fun k => ⟨[(0, .sl 3 (l.map sigS) sigZ), (1, .sl 3 (r.map sigS) sigZ), (5, .int .i64 k.1)], [], 0⟩) (fun k => l.length - k.1) ⟨0, Nat.zero_le _, rfl⟩ (Le.of [] (Nat.zero_le _) ?_ ?_ ?_) ?_
  · simp only [eL, eH, eG, leO, Nat.beq, Nat.reduceLT]
  · simp only [eL, eH, eG, leO, Nat.beq, Nat.reduceLT]; first | done | rfl | simp | omega
  · simp only [eL, eH, eG, leO, Nat.beq, Nat.reduceLT]
  · rintro ⟨k, hk, hp⟩
    by_cases hlt : k < l.length
    · have hf : decide ((k : Int) < l.length) = true := decide_eq_true (by omega)
      have hr1 : ∀ d, (l.map sigS).getD k d = sigS (l.getD k sig0) := fun d => getIn sigS l k d sig0 hlt
      have hr2 : ∀ d, (r.map sigS).getD k d = sigS (r.getD k sig0) := fun d => getIn sigS r k d sig0 (by omega)
      have hta := rall_succ (sigAt l r) k
      have hab := rall_bad (sigAt l r) l.length k hlt
      have hat : sigAt l r k = !(!decide ((l.getD k sig0).1 = (r.getD k sig0).1) || (!decide ((l.getD k sig0).2.1 = (r.getD k sig0).2.1) || !decide ((l.getD k sig0).2.2.1 = (r.getD k sig0).2.2.1))) := by
        unfold sigAt; rw [sigEq_iff]; simp only [Bool.not_or, Bool.not_not]
      have ex := sb (l.getD k sig0).2.2.1 (r.getD k sig0).2.2.1
      simp only [sigS] at hr1 hr2
      simp only [hT, hf, hr1, Int.toNat_natCast, ↓If_lit, eA, Nat.beq, List.toArray, Nat.reduceAdd, Nat.reduceLT, Nat.reduceLeDiff, Int.reduceToNat]
      repeat' first | (with_reducible refine And.intro ?_ ?_) | omega | intro _
      refine wpc_read [0, 1, 2, 3, 4, 5, 6, 7, 8, 9, 10, 11, 12, 13, 14, 15, 16, 17, 18, 19, 20, 21, 22, 23, 24, 25, 26, 27, 28, 29, 30, 31, 32, 33, 34, 35, 36, 37] hm (by kernel_rfl) ?_
      simp only [hT, hr1, hr2, Int.toNat_natCast, ↓If_lit, eT, ↓If_lit, Nat.reduceSub, reduceCtorEq, eA, Nat.beq, List.toArray, Nat.reduceAdd, Nat.reduceLT, Nat.reduceLeDiff, Int.reduceToNat]
      have hbad : sigAt l r k = false → false = (List.range l.length).all (fun k => decide (l.getD k sig0 = r.getD k sig0)) := fun e => by exact bad2 (hab e)
      all_goals repeat' first
        | (refine If.mk (fun q => ?_) (fun q => ?_))
        | (show In64 _; exact ⟨by omega, by omega⟩)
        | (with_reducible refine And.intro ?_ ?_)
        | omega
        | (refine Fun.pcall (ex) (by exact rfl) rfl rfl rfl rfl ?_; simp only [hT, Int.toNat_natCast, ↓If_lit, eT, ↓If_lit, Nat.reduceSub, reduceCtorEq, eA, Nat.beq, List.toArray, Nat.reduceAdd, Nat.reduceLT, Nat.reduceLeDiff, Int.reduceToNat])
        | (intro _)
      all_goals clear hr1 hr2 hT hm
      all_goals try simp only [Bool.not_eq_true', Bool.not_eq_false'] at *
      all_goals first
        | exact hbad (by clear hbad; clear bad2 hab hta hp hlt hf hk hlen h2; rw [hat]; (try simp only [strEq] at *); simp only [*, decide_true, decide_false, Bool.true_or, Bool.or_true, Bool.false_or, Bool.or_false, Bool.not_true, Bool.not_false, Bool.true_and, Bool.and_true, Bool.false_and, Bool.and_false, Bool.and_self, Bool.or_self, Bool.not_not]; done)
        | (have hok : sigAt l r k = true := by clear hbad; clear bad2 hab hta hp hlt hf hk hlen h2; rw [hat]; (try simp only [strEq] at *); simp only [*, decide_true, decide_false, Bool.true_or, Bool.or_true, Bool.false_or, Bool.or_false, Bool.not_true, Bool.not_false, Bool.true_and, Bool.and_true, Bool.false_and, Bool.and_false, Bool.and_self, Bool.or_self, Bool.not_not]; done
           try refine And.intro (show In64 _ from ⟨by omega, by omega⟩) ?_
           refine ⟨⟨k + 1, hlt, by rw [hta, hp, hok]; rfl⟩, by simp only; omega, Le.of [] (Nat.zero_le _) ?_ ?_ ?_⟩
           · simp only [eL, eH, eG, leO, Nat.beq, Nat.reduceLT]
           · simp only [eL, eH, eG, leO, Nat.beq, Nat.reduceLT]; first | done | rfl | simp | omega
           · simp only [eL, eH, eG, leO, Nat.beq, Nat.reduceLT])
    · obtain rfl : k = l.length := by omega
      have hf : decide ((l.length : Int) < l.length) = false := decide_eq_false (by omega)
      simp only [hT, hf, ↓If_lit, eA, Nat.beq, List.toArray, Nat.reduceAdd, Nat.reduceLT, Nat.reduceLeDiff, Int.reduceToNat]
      repeat intro _
      exact hp.symm
def boxAt (l r : List VBox) (k : Nat) : Bool := decide (l.getD k box0 = r.getD k box0)
theorem TY_boxesS {P : Program} (hP : P = Tryz.prog) : ((P.follows .mixedOrders = true) ∧ (lkT P 30 = 1)) ∧ ((elT P 30 = some ((true, (2, 32)))) ∧ (tyT P 163 = some ((true, 2)))) := by subst hP; refine ⟨⟨?_, ?_⟩, ⟨?_, ?_⟩⟩ <;> kernel_rfl
theorem boxesS {P : Program} [Known P] (hP : P = Tryz.prog) (l r : List VBox) : Fun P 125 [.sl 2 (l.map boxS) boxZ, .sl 2 (r.map boxS) boxZ] (.bool (decide (l = r))) := by
  refine fun_of (fn := Tryz.f125) (hP ▸ Tryz.func125) (by kernel_rfl) (by kernel_rfl) (by kernel_rfl) (by kernel_rfl) ?_
  have hT := TY_boxesS hP
  have hm : P.follows .mixedOrders = true := by subst hP; kernel_rfl
  have bs := fun a b => boxSameS hP a b
  clear hP
  intro hl
  simp only [limL, limA, List.length_map, and_true] at hl
  obtain ⟨hl0, hr0⟩ := hl
  have hl : True := trivial
  clear hl
  simp only [Tryz.f125, hT, eA, Nat.beq, List.toArray, Nat.reduceAdd, Nat.reduceLT, Nat.reduceLeDiff, Int.reduceToNat]
  have hll : l.length ≤ 140737488355328 := hl0
  have hrl : r.length ≤ 140737488355328 := hr0
  have bad1 : decide ((l.length : Int) = r.length) = false → false = decide (l = r) := fun h => by
    rw [decide_eq_false (p := l = r) (fun e => by rw [e] at h; simp at h)]
  all_goals repeat' first
    | (refine If.mk (fun q => ?_) (fun q => ?_))
    | (show In64 _; exact ⟨by omega, by omega⟩)
    | (with_reducible refine And.intro ?_ ?_)
    | omega
    | assumption
    | (intro _)
  all_goals (try simp only [Bool.not_eq_true', Bool.not_eq_false'] at *)
  all_goals first
    | (refine bad1 ?_; assumption)
    | skip
  have h2 : decide ((l.length : Int) = r.length) = true := by assumption
  have hlen : l.length = r.length := by have := of_decide_eq_true h2; omega
  clear bad1
  rw [← range_eq l r box0 hlen]
  have bad2 : (List.range l.length).all (boxAt l r) = false → false = (List.range l.length).all (fun k => decide (l.getD k box0 = r.getD k box0)) := fun h => h.symm
  refine wpc_loop {k : Nat // k ≤ l.length ∧ (List.range k).all (boxAt l r) = true} (fun k => ⟨[(0, .sl 2 (l.map boxS) boxZ), (1, .sl 2 (r.map boxS) boxZ), (5, .int .i64 k.1)], [], 0⟩) (fun k => l.length - k.1) ⟨0, Nat.zero_le _, rfl⟩ (Le.of [] (Nat.zero_le _) ?_ ?_ ?_) ?_
  · simp only [eL, eH, eG, leO, Nat.beq, Nat.reduceLT]
  · simp only [eL, eH, eG, leO, Nat.beq, Nat.reduceLT]; first | done | rfl | simp | omega
  · simp only [eL, eH, eG, leO, Nat.beq, Nat.reduceLT]
  · rintro ⟨k, hk, hp⟩
    by_cases hlt : k < l.length
    · have hf : decide ((k : Int) < l.length) = true := decide_eq_true (by omega)
      have hr1 : ∀ d, (l.map boxS).getD k d = boxS (l.getD k box0) := fun d => getIn boxS l k d box0 hlt
      have hr2 : ∀ d, (r.map boxS).getD k d = boxS (r.getD k box0) := fun d => getIn boxS r k d box0 (by omega)
      have hta := rall_succ (boxAt l r) k
      have hab := rall_bad (boxAt l r) l.length k hlt
      have hat : boxAt l r k = decide (l.getD k box0 = r.getD k box0) := rfl
      have ex := bs (l.getD k box0) (r.getD k box0)
      rw [← hat] at ex
      simp only [boxS] at hr1 hr2 ex
      simp only [hT, hf, hr1, Int.toNat_natCast, ↓If_lit, eA, Nat.beq, List.toArray, Nat.reduceAdd, Nat.reduceLT, Nat.reduceLeDiff, Int.reduceToNat]
      repeat' first | (with_reducible refine And.intro ?_ ?_) | omega | intro _
      refine wpc_read [0, 1, 2, 3, 4, 5, 6, 7, 8, 9] hm (by kernel_rfl) ?_
      simp only [hT, hr1, hr2, Int.toNat_natCast, ↓If_lit, eT, ↓If_lit, Nat.reduceSub, reduceCtorEq, eA, Nat.beq, List.toArray, Nat.reduceAdd, Nat.reduceLT, Nat.reduceLeDiff, Int.reduceToNat]
      have hbad : boxAt l r k = false → false = (List.range l.length).all (fun k => decide (l.getD k box0 = r.getD k box0)) := fun e => by exact bad2 (hab e)
      all_goals repeat' first
        | (refine If.mk (fun q => ?_) (fun q => ?_))
        | (show In64 _; exact ⟨by omega, by omega⟩)
        | (with_reducible refine And.intro ?_ ?_)
        | omega
        | (refine Fun.pcall (ex) (by exact rfl) rfl rfl rfl rfl ?_; simp only [hT, Int.toNat_natCast, ↓If_lit, eT, ↓If_lit, Nat.reduceSub, reduceCtorEq, eA, Nat.beq, List.toArray, Nat.reduceAdd, Nat.reduceLT, Nat.reduceLeDiff, Int.reduceToNat])
        | (intro _)
      all_goals clear hr1 hr2 hT hm
      all_goals try simp only [Bool.not_eq_true', Bool.not_eq_false'] at *
      all_goals first
        | exact hbad (by clear hbad; assumption)
        | (have hok : boxAt l r k = true := by clear hbad; assumption
           try refine And.intro (show In64 _ from ⟨by omega, by omega⟩) ?_
           refine ⟨⟨k + 1, hlt, by rw [hta, hp, hok]; rfl⟩, by simp only; omega, Le.of [] (Nat.zero_le _) ?_ ?_ ?_⟩
           · simp only [eL, eH, eG, leO, Nat.beq, Nat.reduceLT]
           · simp only [eL, eH, eG, leO, Nat.beq, Nat.reduceLT]; first | done | rfl | simp | omega
           · simp only [eL, eH, eG, leO, Nat.beq, Nat.reduceLT])
    · obtain rfl : k = l.length := by omega
      have hf : decide ((l.length : Int) < l.length) = false := decide_eq_false (by omega)
      simp only [hT, hf, ↓If_lit, eA, Nat.beq, List.toArray, Nat.reduceAdd, Nat.reduceLT, Nat.reduceLeDiff, Int.reduceToNat]
      repeat intro _
      exact hp.symm
end Go.Proofs.YtjlmfcddbcoimaaGreat.C
