/- Whether cells, boxes and books are ok, by the program's text. -/
import Derived.Test.YtjlmfcddbcoimaaGreatCNodB
import Derived.Test.YtjlmfcddbcoimaaGreatCPlnC
set_option maxRecDepth 100000
set_option maxHeartbeats 4000000
set_option linter.unusedSimpArgs false
set_option linter.unusedVariables false
namespace Go.Proofs.YtjlmfcddbcoimaaGreat.C
open Go Go.Av Go.Proofs
open Nat (reduceAdd reduceLT reduceLeDiff reduceSub)
open Int (reduceToNat)
def byI (n : Int) : Bool := decide (0 ≤ n) && decide (n ≤ 255)
theorem take_all {α : Type} (f : α → Bool) (l : List α) (i : Nat) (z : α) (h : i < l.length) : (l.take (i + 1)).all f = ((l.take i).all f && f (l.getD i z)) := by
  rw [List.take_add_one, List.getElem?_eq_getElem h, List.all_append, List.getD_eq_getElem?_getD, List.getElem?_eq_getElem h]
  simp
theorem all_bad {α : Type} (f : α → Bool) (l : List α) (i : Nat) (z : α) (h : i < l.length) (hb : f (l.getD i z) = false) : l.all f = false := by
  rw [List.getD_eq_getElem?_getD, List.getElem?_eq_getElem h, Option.getD_some] at hb
  exact List.all_eq_false.2 ⟨_, List.getElem_mem h, by simp [hb]⟩
def vmHd (s : VSt) : Bool := decide (s.1 < 0) || decide (24 < s.1) || !decide ((s.2.1.length : Int) = 4) || !decide ((s.2.2.1.length : Int) = 8)
def vmOkB (s : VSt) : Bool := !vmHd s && (s.2.1.all byI && (s.2.2.1.all byI && (decide (s.2.2.2.1 = 0) || decide (s.2.2.2.1 = 1) || decide (s.2.2.2.1 = 2))))
theorem TY_vmByte {P : Program} (hP : P = Tryz.prog) : True := trivial
theorem vmByte {P : Program} [Known P] (hP : P = Tryz.prog) (n : Int) : Fun P 194 [.int .i64 n] (.bool (byI n)) := by
  refine fun_of (fn := Tryz.f194) (hP ▸ Tryz.func194) (by kernel_rfl) (by kernel_rfl) (by kernel_rfl) (by kernel_rfl) ?_
  have hT := TY_vmByte hP
  clear hP
  intro hl
  clear hl
  simp only [Tryz.f194, hT, eA, Nat.beq, List.toArray, reduceAdd, reduceLT, reduceLeDiff, reduceToNat]
  exact ⟨fun q => by unfold byI; rw [q]; rfl, fun q => by unfold byI; rw [q]; rfl⟩
theorem TY_vmOk {P : Program} (hP : P = Tryz.prog) : (((fldT P 148 0 = some ((0, (false, 1)))) ∧ ((tyT P 3 = some ((false, 1))) ∧ (fldT P 148 1 = some ((1, (false, 1)))))) ∧ (((tyT P 33 = some ((false, 1))) ∧ (lkT P 33 = 1)) ∧ ((fldT P 148 2 = some ((2, (false, 1)))) ∧ (zeroT P 319 = some ((.nils :: (.nils :: []))))))) ∧ (((bldT P 319 = true) ∧ ((plT P 319 0 = some ((0, 1))) ∧ (plT P 319 1 = some ((1, 1))))) ∧ (((arT P 319 = some ((2, (false, 1)))) ∧ (lkT P 319 = 0)) ∧ ((elT P 33 = some ((false, (1, 8)))) ∧ (fldT P 148 3 = some ((3, (false, 1))))))) := by subst hP; refine ⟨⟨⟨?_, ⟨?_, ?_⟩⟩, ⟨⟨?_, ?_⟩, ⟨?_, ?_⟩⟩⟩, ⟨⟨?_, ⟨?_, ?_⟩⟩, ⟨⟨?_, ?_⟩, ⟨?_, ?_⟩⟩⟩⟩ <;> kernel_rfl
theorem vmOk {P : Program} [Known P] (hP : P = Tryz.prog) (s : VSt) : Fun P 271 [.agg (stS s)] (.bool (vmOkB s)) := by
  refine fun_of (fn := Tryz.f271) (hP ▸ Tryz.func271) (by kernel_rfl) (by kernel_rfl) (by kernel_rfl) (by kernel_rfl) ?_
  have hT := TY_vmOk hP
  have vb := fun n => vmByte hP n
  clear hP
  intro hl
  clear hl
  simp only [stS, Tryz.f271, hT, eA, Nat.beq, List.toArray, reduceAdd, reduceLT, reduceLeDiff, reduceToNat]
  have bad : vmHd s = true → false = vmOkB s := fun h => by unfold vmOkB; rw [h]; rfl
  refine ⟨fun q1 => bad (by unfold vmHd; rw [q1]; rfl), fun q1 => ⟨fun q2 => bad (by unfold vmHd; rw [q2]; simp), fun q2 => ?_⟩⟩
  intro hl1
  refine ⟨fun q3 => bad (by unfold vmHd; rw [q3]; simp), fun q3 => ?_⟩
  intro hl2
  refine ⟨fun q4 => bad (by unfold vmHd; rw [q4]; simp), fun q4 => ?_⟩
  have hhd : vmHd s = false := by unfold vmHd; rw [q1, q2, q3, q4]; rfl
  clear bad
  refine wpc_loop {i : Nat // i = 0 ∨ (i = 1 ∧ s.2.1.all byI = true) ∨ (i = 2 ∧ s.2.1.all byI = true ∧ s.2.2.1.all byI = true)} (fun i => ⟨[(1, .cp 0 0 0), (31, .agg [intsS s.2.1, intsS s.2.2.1]), (32, .int .i64 i.1)], [(0, ⟨4, [stS s], [], true⟩)], 1⟩) (fun i => 2 - i.1) ⟨0, .inl rfl⟩ (Le.of [] (Nat.zero_le _) ?_ ?_ ?_) ?_
  · simp only [eL, eH, eG, leO, Nat.beq, reduceLT]
  · simp only [eL, eH, eG, leO, Nat.beq, reduceLT]; first | done | rfl | simp
  · simp only [stS, eL, eH, eG, leO, Nat.beq, reduceLT]
  · rintro ⟨i, rfl | ⟨rfl, ha⟩ | ⟨rfl, ha, hb⟩⟩
    · simp only [hT, Int.cast_ofNat_Int, Int.reduceLT, decide_true, ↓If_lit, eA, Nat.beq, List.toArray, reduceAdd, reduceLT, reduceLeDiff, reduceToNat]
      (try unfold lim); repeat first | ((with_reducible refine And.intro ?_ ?_); (first | omega | exact ⟨by omega, by omega⟩ | rfl)) | intro _
      refine wpc_loop {k : Nat // k ≤ s.2.1.length ∧ (s.2.1.take k).all byI = true} (fun k => ⟨[(1, .cp 0 0 0), (31, .agg [intsS s.2.1, intsS s.2.2.1]), (32, .int .i64 0), (35, intsS s.2.1), (36, .int .i64 s.2.1.length), (37, .int .i64 k.1)], [(0, ⟨4, [stS s], [], true⟩)], 1⟩) (fun k => s.2.1.length - k.1) ⟨0, Nat.zero_le _, rfl⟩ (Le.of [] (Nat.zero_le _) ?_ ?_ ?_) ?_
      · simp only [eL, eH, eG, leO, Nat.beq, reduceLT]
      · simp only [eL, eH, eG, leO, Nat.beq, reduceLT]; first | done | rfl | simp
      · simp only [stS, eL, eH, eG, leO, Nat.beq, reduceLT]
      · rintro ⟨k, hk, hp⟩
        by_cases hlt : k < s.2.1.length
        · have hf : decide ((k : Int) < s.2.1.length) = true := decide_eq_true (by omega)
          have hrow : ∀ d, (s.2.1.map intE).getD k d = intE (s.2.1.getD k 0) := fun d => getIn intE s.2.1 k d 0 hlt
          have ex := vb (s.2.1.getD k 0)
          have hta := take_all byI s.2.1 k 0 hlt
          have hab := all_bad byI s.2.1 k 0 hlt
          simp only [hT, hf, hrow, intE, Int.toNat_natCast, ↓If_lit, eA, Nat.beq, List.toArray, reduceAdd, reduceLT, reduceLeDiff, reduceToNat]
          (try unfold lim); repeat first | ((with_reducible refine And.intro ?_ ?_); (first | omega | exact ⟨by omega, by omega⟩ | rfl)) | intro _
          refine Fun.plain (ex) rfl rfl rfl rfl ?_; simp only [hT, eN, ↓If_lit, Int.reduceLT, Int.reduceLE, eA, Nat.beq, List.toArray, reduceAdd, reduceLT, reduceLeDiff, reduceToNat]; (try unfold lim); repeat first | ((with_reducible refine And.intro ?_ ?_); (first | omega | exact ⟨by omega, by omega⟩ | rfl)) | intro _
          refine ⟨fun q => ?_, fun q => ?_⟩
          · have q : byI (s.2.1.getD k 0) = false := by simpa using q
            simp [vmOkB, hab q]
          · have q : byI (s.2.1.getD k 0) = true := by simpa using q
            refine ⟨⟨by omega, by omega⟩, ⟨k + 1, hlt, by rw [hta, hp, q]; rfl⟩, by simp only; omega, Le.of [] (Nat.zero_le _) ?_ ?_ ?_⟩
            · simp only [eL, eH, eG, leO, Nat.beq, reduceLT]
            · simp only [eL, eH, eG, leO, Nat.beq, reduceLT]; first | done | rfl | simp
            · simp only [stS, eL, eH, eG, leO, Nat.beq, reduceLT]
        · obtain rfl : k = s.2.1.length := by omega
          have hf : decide ((s.2.1.length : Int) < s.2.1.length) = false := decide_eq_false (by omega)
          rw [List.take_length] at hp
          simp only [hT, hf, ↓If_lit, eA, Nat.beq, List.toArray, reduceAdd, reduceLT, reduceLeDiff, reduceToNat]
          (try unfold lim); repeat first | ((with_reducible refine And.intro ?_ ?_); (first | omega | exact ⟨by omega, by omega⟩ | rfl)) | intro _
          refine ⟨⟨1, .inr (.inl ⟨rfl, hp⟩)⟩, Nat.lt_succ_self 1, Le.of [] (Nat.zero_le _) ?_ ?_ ?_⟩
          · simp only [eL, eH, eG, leO, Nat.beq, reduceLT]
          · simp only [eL, eH, eG, leO, Nat.beq, reduceLT]; first | done | rfl | simp
          · simp only [stS, eL, eH, eG, leO, Nat.beq, reduceLT]
    · simp only [hT, Int.cast_ofNat_Int, Int.reduceLT, decide_true, ↓If_lit, eA, Nat.beq, List.toArray, reduceAdd, reduceLT, reduceLeDiff, reduceToNat]
      (try unfold lim); repeat first | ((with_reducible refine And.intro ?_ ?_); (first | omega | exact ⟨by omega, by omega⟩ | rfl)) | intro _
      refine wpc_loop {k : Nat // k ≤ s.2.2.1.length ∧ (s.2.2.1.take k).all byI = true} (fun k => ⟨[(1, .cp 0 0 0), (31, .agg [intsS s.2.1, intsS s.2.2.1]), (32, .int .i64 1), (35, intsS s.2.2.1), (36, .int .i64 s.2.2.1.length), (37, .int .i64 k.1)], [(0, ⟨4, [stS s], [], true⟩)], 1⟩) (fun k => s.2.2.1.length - k.1) ⟨0, Nat.zero_le _, rfl⟩ (Le.of [] (Nat.zero_le _) ?_ ?_ ?_) ?_
      · simp only [eL, eH, eG, leO, Nat.beq, reduceLT]
      · simp only [eL, eH, eG, leO, Nat.beq, reduceLT]; first | done | rfl | simp
      · simp only [stS, eL, eH, eG, leO, Nat.beq, reduceLT]
      · rintro ⟨k, hk, hp⟩
        by_cases hlt : k < s.2.2.1.length
        · have hf : decide ((k : Int) < s.2.2.1.length) = true := decide_eq_true (by omega)
          have hrow : ∀ d, (s.2.2.1.map intE).getD k d = intE (s.2.2.1.getD k 0) := fun d => getIn intE s.2.2.1 k d 0 hlt
          have ex := vb (s.2.2.1.getD k 0)
          have hta := take_all byI s.2.2.1 k 0 hlt
          have hab := all_bad byI s.2.2.1 k 0 hlt
          simp only [hT, hf, hrow, intE, Int.toNat_natCast, ↓If_lit, eA, Nat.beq, List.toArray, reduceAdd, reduceLT, reduceLeDiff, reduceToNat]
          (try unfold lim); repeat first | ((with_reducible refine And.intro ?_ ?_); (first | omega | exact ⟨by omega, by omega⟩ | rfl)) | intro _
          refine Fun.plain (ex) rfl rfl rfl rfl ?_; simp only [hT, eN, ↓If_lit, Int.reduceLT, Int.reduceLE, eA, Nat.beq, List.toArray, reduceAdd, reduceLT, reduceLeDiff, reduceToNat]; (try unfold lim); repeat first | ((with_reducible refine And.intro ?_ ?_); (first | omega | exact ⟨by omega, by omega⟩ | rfl)) | intro _
          refine ⟨fun q => ?_, fun q => ?_⟩
          · have q : byI (s.2.2.1.getD k 0) = false := by simpa using q
            simp [vmOkB, hab q]
          · have q : byI (s.2.2.1.getD k 0) = true := by simpa using q
            refine ⟨⟨by omega, by omega⟩, ⟨k + 1, hlt, by rw [hta, hp, q]; rfl⟩, by simp only; omega, Le.of [] (Nat.zero_le _) ?_ ?_ ?_⟩
            · simp only [eL, eH, eG, leO, Nat.beq, reduceLT]
            · simp only [eL, eH, eG, leO, Nat.beq, reduceLT]; first | done | rfl | simp
            · simp only [stS, eL, eH, eG, leO, Nat.beq, reduceLT]
        · obtain rfl : k = s.2.2.1.length := by omega
          have hf : decide ((s.2.2.1.length : Int) < s.2.2.1.length) = false := decide_eq_false (by omega)
          rw [List.take_length] at hp
          simp only [hT, hf, ↓If_lit, eA, Nat.beq, List.toArray, reduceAdd, reduceLT, reduceLeDiff, reduceToNat]
          (try unfold lim); repeat first | ((with_reducible refine And.intro ?_ ?_); (first | omega | exact ⟨by omega, by omega⟩ | rfl)) | intro _
          refine ⟨⟨2, .inr (.inr ⟨rfl, ha, hp⟩)⟩, Nat.lt_succ_self 0, Le.of [] (Nat.zero_le _) ?_ ?_ ?_⟩
          · simp only [eL, eH, eG, leO, Nat.beq, reduceLT]
          · simp only [eL, eH, eG, leO, Nat.beq, reduceLT]; first | done | rfl | simp
          · simp only [stS, eL, eH, eG, leO, Nat.beq, reduceLT]
    · simp only [hT, stS, Int.cast_ofNat_Int, Int.reduceLT, decide_false, ↓If_lit, eA, Nat.beq, List.toArray, reduceAdd, reduceLT, reduceLeDiff, reduceToNat]
      (try unfold lim); repeat first | ((with_reducible refine And.intro ?_ ?_); (first | omega | exact ⟨by omega, by omega⟩ | rfl)) | intro _
      have hb0 : vmOkB s = (decide (s.2.2.2.1 = 0) || decide (s.2.2.2.1 = 1) || decide (s.2.2.2.1 = 2)) := by unfold vmOkB; rw [hhd, ha, hb]; rfl
      rw [hb0]
      exact ⟨fun q => by rw [q]; rfl, fun q => ⟨fun r => by rw [q, r]; rfl, fun r => by rw [q, r]; rfl⟩⟩
def celOkB (c : VCel) : Bool := vmOkB c.1 && decide ((c.2.1.length : Int) ≤ 6)
theorem TY_celOk {P : Program} (hP : P = Tryz.prog) : ((fldT P 151 0 = some ((0, (true, 4)))) ∧ (tyT P 148 = some ((true, 4)))) ∧ ((fldT P 151 1 = some ((4, (false, 1)))) ∧ ((tyT P 149 = some ((false, 1))) ∧ (lkT P 149 = 1))) := by subst hP; refine ⟨⟨?_, ?_⟩, ⟨?_, ⟨?_, ?_⟩⟩⟩ <;> kernel_rfl
theorem celOk {P : Program} [Known P] (hP : P = Tryz.prog) (c : VCel) : Fun P 202 [.agg (celS c)] (.bool (celOkB c)) := by
  refine fun_of (fn := Tryz.f202) (hP ▸ Tryz.func202) (by kernel_rfl) (by kernel_rfl) (by kernel_rfl) (by kernel_rfl) ?_
  have hT := TY_celOk hP
  have e := vmOk hP c.1
  clear hP
  intro hl
  clear hl
  simp only [stS] at e
  simp only [celS, Tryz.f202, hT, eA, Nat.beq, List.toArray, reduceAdd, reduceLT, reduceLeDiff, reduceToNat]
  refine Fun.plain (e) rfl rfl rfl rfl ?_; simp only [hT, eN, ↓If_lit, Int.reduceLT, Int.reduceLE, eA, Nat.beq, List.toArray, reduceAdd, reduceLT, reduceLeDiff, reduceToNat]; (try unfold lim); repeat first | ((with_reducible refine And.intro ?_ ?_); (first | omega | exact ⟨by omega, by omega⟩ | rfl)) | intro _
  unfold celOkB
  refine ⟨fun q => ?_, fun q => ?_⟩
  · rw [q]; intro _; rfl
  · rw [q]; rfl
theorem TY_intsEq {P : Program} (hP : P = Tryz.prog) : ((P.follows .mixedOrders = true) ∧ (lkT P 33 = 1)) ∧ ((elT P 33 = some ((false, (1, 8)))) ∧ (tyT P 3 = some ((false, 1)))) := by subst hP; refine ⟨⟨?_, ?_⟩, ⟨?_, ?_⟩⟩ <;> kernel_rfl
theorem intsEq {P : Program} [Known P] (hP : P = Tryz.prog) (l r : List Int) : Fun P 274 [intsS l, intsS r] (.bool (decide (l = r))) := by
  refine fun_of (fn := Tryz.f274) (hP ▸ Tryz.func274) (by kernel_rfl) (by kernel_rfl) (by kernel_rfl) (by kernel_rfl) ?_
  have hT := TY_intsEq hP
  have hm : P.follows .mixedOrders = true := by subst hP; kernel_rfl
  clear hP
  intro hl
  simp only [limL, limA, and_true, List.length_map] at hl
  simp only [Tryz.f274, hT, eA, Nat.beq, List.toArray, reduceAdd, reduceLT, reduceLeDiff, reduceToNat]
  have hl1 : l.length ≤ 140737488355328 := hl.1
  refine fun _ _ => ⟨fun h => ?_, fun h => ?_⟩
  · simp only [Bool.not_eq_true', decide_eq_false_iff_not] at h
    exact (decide_eq_false (fun e => h (by rw [e]))).symm
  · simp only [Bool.not_eq_false', decide_eq_true_eq] at h
    have hlr : l.length = r.length := by omega
    refine fun _ => ?_
    refine wpc_loop {i : Nat // i ≤ l.length ∧ l.take i = r.take i} (fun i => ⟨[(0, intsS l), (1, intsS r), (12, .int .i64 l.length), (13, .int .i64 i.1)], [], 0⟩) (fun i => l.length - i.1) ⟨0, by omega, rfl⟩ (Le.of [] (Nat.zero_le _) ?_ ?_ ?_) ?_
    · simp only [eL, eH, eG, leO, Nat.beq, reduceLT]
    · simp only [eL, eH, eG, leO, Nat.beq, reduceLT]; first | done | rfl | simp
    · simp only [eL, eH, eG, leO, Nat.beq, reduceLT]
    · rintro ⟨i, hi, hp⟩
      by_cases hil : i < l.length
      · have hf : decide ((i : Int) < l.length) = true := decide_eq_true (by omega)
        have gl : ∀ d, (l.map intE).getD i d = intE (l.getD i 0) := fun d => getIn intE l i d 0 hil
        have gr : ∀ d, (r.map intE).getD i d = intE (r.getD i 0) := fun d => getIn intE r i d 0 (by omega)
        simp only [hT, hf, ↓If_lit, eA, Nat.beq, List.toArray, reduceAdd, reduceLT, reduceLeDiff, reduceToNat]
        refine wpc_draw (.take 0 <| .take 1 <| .take 2 <| .take 3 <| .take 4 <| .take 5 <| .take 6 <| .take 7 <| .take 8 .done) hm (by kernel_rfl) ?_
        simp only [hT, gl, gr, intE, Int.toNat_natCast, eT, ↓If_lit, PCall, reduceSub, reduceCtorEq, eA, Nat.beq, List.toArray, reduceAdd, reduceLT, reduceLeDiff, reduceToNat]
        (try unfold lim); repeat first | ((with_reducible refine And.intro ?_ ?_); (first | omega | exact ⟨by omega, by omega⟩ | rfl)) | intro _
        have el : l.getD i 0 = l[i] := by rw [List.getD_eq_getElem?_getD, List.getElem?_eq_getElem hil]; rfl
        have er : r.getD i 0 = r[i] := by rw [List.getD_eq_getElem?_getD, List.getElem?_eq_getElem (by omega)]; rfl
        refine ⟨fun hb => ?_, fun hb => ⟨⟨by omega, by omega⟩, ⟨i + 1, hil, ?_⟩, by simp only; omega, Le.of [] (Nat.zero_le _) ?_ ?_ ?_⟩⟩
        · simp only [Bool.not_eq_true', decide_eq_false_iff_not] at hb
          exact (decide_eq_false (fun e => hb (by subst e; rfl))).symm
        · simp only [Bool.not_eq_false', decide_eq_true_eq] at hb
          rw [el, er] at hb
          rw [List.take_add_one, List.take_add_one, List.getElem?_eq_getElem hil, List.getElem?_eq_getElem (by omega : i < r.length), hb, hp]
        · simp only [eL, eH, eG, leO, Nat.beq, reduceLT]
        · simp only [eL, eH, eG, leO, Nat.beq, reduceLT]; first | done | rfl | simp
        · simp only [eL, eH, eG, leO, Nat.beq, reduceLT]
      · obtain rfl : i = l.length := by omega
        have hf : decide ((l.length : Int) < l.length) = false := decide_eq_false (by omega)
        rw [List.take_length, hlr, List.take_length] at hp
        simp only [hT, hf, ↓If_lit, eA, Nat.beq, List.toArray, reduceAdd, reduceLT, reduceLeDiff, reduceToNat]
        first | exact (decide_eq_true hp).symm | (rw [decide_eq_true hp]) | skip
theorem TY_bytesEq {P : Program} (hP : P = Tryz.prog) : ((utT P 149 = true) ∧ (intT P 9 = none)) ∧ ((lkT P 9 = 2) ∧ (byT P 149 = true)) := by subst hP; refine ⟨⟨?_, ?_⟩, ⟨?_, ?_⟩⟩ <;> kernel_rfl
theorem bytesEq {P : Program} [Known P] (hP : P = Tryz.prog) (l r : List UInt8) : Fun P 211 [B l, B r] (.bool (decide (l = r))) := by
  refine fun_of (fn := Tryz.f211) (hP ▸ Tryz.func211) (by kernel_rfl) (by kernel_rfl) (by kernel_rfl) (by kernel_rfl) ?_
  have hT := TY_bytesEq hP
  clear hP
  intro hl
  clear hl
  simp only [Tryz.f211, hT, eA, Nat.beq, List.toArray, reduceAdd, reduceLT, reduceLeDiff, reduceToNat]
  refine decide_eq_decide.2 ⟨fun h => ?_, fun h => by rw [h]⟩
  simpa using h
def sameV (a b : VSt) : Bool := decide (a.1 = b.1) && (decide (a.2.2.2.1 = b.2.2.2.1) && (decide (a.2.1 = b.2.1) && decide (a.2.2.1 = b.2.2.1)))
def sameC (a b : VCel) : Bool := sameV a.1 b.1 && decide (a.2.1 = b.2.1)
theorem TY_vmSame {P : Program} (hP : P = Tryz.prog) : ((fldT P 148 0 = some ((0, (false, 1)))) ∧ ((tyT P 3 = some ((false, 1))) ∧ (fldT P 148 3 = some ((3, (false, 1)))))) ∧ ((fldT P 148 1 = some ((1, (false, 1)))) ∧ ((tyT P 33 = some ((false, 1))) ∧ (fldT P 148 2 = some ((2, (false, 1)))))) := by subst hP; refine ⟨⟨?_, ⟨?_, ?_⟩⟩, ⟨?_, ⟨?_, ?_⟩⟩⟩ <;> kernel_rfl
theorem vmSame {P : Program} [Known P] (hP : P = Tryz.prog) (a b : VSt) : Fun P 210 [.agg (stS a), .agg (stS b)] (.bool (sameV a b)) := by
  refine fun_of (fn := Tryz.f210) (hP ▸ Tryz.func210) (by kernel_rfl) (by kernel_rfl) (by kernel_rfl) (by kernel_rfl) ?_
  have hT := TY_vmSame hP
  have e := fun l r => intsEq hP l r
  clear hP
  intro hl
  clear hl
  simp only [stS, Tryz.f210, hT, eA, Nat.beq, List.toArray, reduceAdd, reduceLT, reduceLeDiff, reduceToNat]
  unfold sameV
  refine ⟨fun q1 => ⟨fun q2 => ?_, fun q2 => ?_⟩, fun q1 => ?_⟩
  · rw [q1, q2]
    refine Fun.plain (e a.2.1 b.2.1) rfl rfl rfl rfl ?_; simp only [hT, eN, ↓If_lit, Int.reduceLT, Int.reduceLE, eA, Nat.beq, List.toArray, reduceAdd, reduceLT, reduceLeDiff, reduceToNat]; (try unfold lim); repeat first | ((with_reducible refine And.intro ?_ ?_); (first | omega | exact ⟨by omega, by omega⟩ | rfl)) | intro _
    refine ⟨fun q3 => ?_, fun q3 => ?_⟩
    · rw [q3]
      refine Fun.plain (e a.2.2.1 b.2.2.1) rfl rfl rfl rfl ?_; simp only [hT, eN, ↓If_lit, Int.reduceLT, Int.reduceLE, eA, Nat.beq, List.toArray, reduceAdd, reduceLT, reduceLeDiff, reduceToNat]; (try unfold lim); repeat first | ((with_reducible refine And.intro ?_ ?_); (first | omega | exact ⟨by omega, by omega⟩ | rfl)) | intro _
    · rw [q3]; rfl
  · rw [q1, q2]; rfl
  · rw [q1]; rfl
theorem TY_celSame {P : Program} (hP : P = Tryz.prog) : ((fldT P 151 0 = some ((0, (true, 4)))) ∧ (tyT P 148 = some ((true, 4)))) ∧ ((fldT P 151 1 = some ((4, (false, 1)))) ∧ (tyT P 149 = some ((false, 1)))) := by subst hP; refine ⟨⟨?_, ?_⟩, ⟨?_, ?_⟩⟩ <;> kernel_rfl
theorem celSame {P : Program} [Known P] (hP : P = Tryz.prog) (a b : VCel) : Fun P 126 [.agg (celS a), .agg (celS b)] (.bool (sameC a b)) := by
  refine fun_of (fn := Tryz.f126) (hP ▸ Tryz.func126) (by kernel_rfl) (by kernel_rfl) (by kernel_rfl) (by kernel_rfl) ?_
  have hT := TY_celSame hP
  have e := vmSame hP a.1 b.1
  have e2 := bytesEq hP a.2.1 b.2.1
  clear hP
  intro hl
  clear hl
  simp only [stS] at e
  simp only [celS, Tryz.f126, hT, eA, Nat.beq, List.toArray, reduceAdd, reduceLT, reduceLeDiff, reduceToNat]
  unfold sameC
  refine Fun.plain (e) rfl rfl rfl rfl ?_; simp only [hT, eN, ↓If_lit, Int.reduceLT, Int.reduceLE, eA, Nat.beq, List.toArray, reduceAdd, reduceLT, reduceLeDiff, reduceToNat]; (try unfold lim); repeat first | ((with_reducible refine And.intro ?_ ?_); (first | omega | exact ⟨by omega, by omega⟩ | rfl)) | intro _
  refine ⟨fun q => ?_, fun q => ?_⟩
  · rw [q]
    refine Fun.plain (e2) rfl rfl rfl rfl ?_; simp only [hT, eN, ↓If_lit, Int.reduceLT, Int.reduceLE, eA, Nat.beq, List.toArray, reduceAdd, reduceLT, reduceLeDiff, reduceToNat]; (try unfold lim); repeat first | ((with_reducible refine And.intro ?_ ?_); (first | omega | exact ⟨by omega, by omega⟩ | rfl)) | intro _
  · rw [q]; rfl
end Go.Proofs.YtjlmfcddbcoimaaGreat.C
