/- Drawing: a reader of a code, and what it picks. -/
import Derived.Test.YtiaokhgfolbhnaaDoorAvZ
import Derived.Test.YtiaokhgfolbhnaaDoorProg
set_option maxRecDepth 100000
set_option linter.unusedSimpArgs false
set_option linter.unusedVariables false
namespace Go.Proofs.YtiaokhgfolbhnaaDoor.C
open Go Go.Av Go.Proofs
/-- A reader: its code, and how often it was asked. -/
abbrev rd (l : List UInt8) (p : Nat) : Ob := ⟨2, [[B l, .int .i64 p]], [], true⟩
theorem TY_pick {P : Program} (hP : P = Tryd.prog) : (((P.follows .mixedOrders = true) ∧ ((fldT P 106 1 = some ((1, (false, 1)))) ∧ (tyT P 3 = some ((false, 1))))) ∧ ((fldT P 106 0 = some ((0, (false, 1)))) ∧ ((tyT P 22 = some ((false, 1))) ∧ (lkT P 22 = 1)))) ∧ (((elT P 22 = some ((false, (1, 1)))) ∧ ((tyT P 5 = some ((false, 1))) ∧ (utT P 5 = true))) ∧ ((intT P 3 = some (.i64)) ∧ ((lkT P 3 = 0) ∧ (byT P 5 = false)))) := by subst hP; refine ⟨⟨⟨?_, ⟨?_, ?_⟩⟩, ⟨?_, ⟨?_, ?_⟩⟩⟩, ⟨⟨?_, ⟨?_, ?_⟩⟩, ⟨?_, ⟨?_, ?_⟩⟩⟩⟩ <;> kernel_rfl
theorem TY_l30Open {P : Program} (hP : P = Tryd.prog) : ((lkT P 22 = 1) ∧ ((elT P 22 = some ((false, (1, 1)))) ∧ (arT P 22 = none))) ∧ ((zeroT P 106 = some ((.nils :: ((.int .i64 0) :: [])))) ∧ ((bldT P 106 = true) ∧ (plT P 106 0 = some ((0, 1))))) := by subst hP; refine ⟨⟨?_, ⟨?_, ?_⟩⟩, ⟨?_, ⟨?_, ?_⟩⟩⟩ <;> kernel_rfl
theorem l30Open {P : Program} [Known P] (hP : P = Tryd.prog) (l : List UInt8) : FunM P 52 0 [B l] [] (.cp 0 0 0) [(0, rd (l.take 2000) 0)] := by
  refine fun_ofM (fn := Tryd.f52) (hP ▸ Tryd.func52) (by kernel_rfl) (by kernel_rfl) (by kernel_rfl) (by kernel_rfl) ?_
  have hT := TY_l30Open hP
  clear hP
  intro hl
  simp only [limL, limA, and_true, List.length_map] at hl
  simp only [Tryd.f52, hT, selH, List.append_eq, bytB, boo, eqK, isC, convK, fitsK, List.length_append, inst, instV, instC, instT, Bool.and_false, Bool.true_and, Bool.false_and, Bool.and_true, Bool.or_true, Bool.or_false, argTm, Option.getD_some, wpcE, SeqE, BlkE, RndE, wopsE, RetE, RetXE, RetRE, resR, stp, bin, binI, numK, dstOf, St.ev, St.put, gtm, geth, seth, setAll, setRow, srcW, bndW, bldW, rowsW, setC, rdR, rdL, remh, Nat.beq, cond_true, cond_false, ofVal, resW, absC, pkR, selH, List.headD, true_and, and_true, List.toArray, AV.cells?, AV.nb, List.map_cons, List.map_nil, List.length_cons, List.length_nil, List.getD_cons_zero, List.getD_cons_succ, Nat.zero_add, Nat.reduceAdd, Nat.reduceLT, Nat.reduceLeDiff, List.drop, List.take, puL, AV.pu, Bool.and_self, packT, Nat.lt_add_one, Nat.le_refl, Bool.not_true, Bool.not_false, List.set, List.all, AV.one, List.cons_append, List.nil_append, Bool.true_or, Bool.false_or, npL, AV.np, sub, subL, List.length_map, Bool.or_self, Nat.add_zero, Int.toNat_natCast, Int.reduceToNat, List.replicate_zero, Int.toNat_zero]
  (try unfold lim); repeat first | ((with_reducible refine And.intro ?_ ?_); (first | omega | exact ⟨by omega, by omega⟩ | rfl)) | intro _
  refine If.mk (fun q => ⟨by omega, by simp at q; omega, by rw [← List.map_take]; rfl⟩) (fun q => ?_)
  rw [List.take_of_length_le (by simp at q; omega)]
  rfl
theorem xorK (x y : Nat) (hx : x < 4611686018427387904) (hy : y < 4611686018427387904) : bitK .xor .i64 (x : Int) (y : Int) = ((x ^^^ y : Nat) : Int) := by
  have hlt : x ^^^ y < 4611686018427387904 := Nat.xor_lt_two_pow (n := 62) hx hy
  simp only [bitK]
  have h2 : (BitVec.ofInt IntKind.i64.bits (x : Int) ^^^ BitVec.ofInt IntKind.i64.bits (y : Int)).toNat = x ^^^ y := by
    rw [BitVec.toNat_xor, BitVec.ofInt_natCast, BitVec.ofInt_natCast, BitVec.toNat_ofNat, BitVec.toNat_ofNat]
    rw [Nat.mod_eq_of_lt (by simp [IntKind.bits]; omega), Nat.mod_eq_of_lt (by simp [IntKind.bits]; omega)]
  rw [h2, (wrap_iff _ _).2]
  simp [IntKind.bits, IntKind.signed]; omega
/-- A number from a reader: below n, or 0. -/
theorem pick {P : Program} [Known P] (hP : P = Tryd.prog) (l : List UInt8) (p n : Nat) (hp : p ≤ 1000000000) : FunX P 55 1 [.cp 0 0 0, .int .i64 n] [(0, rd l p)] (fun r h => ∃ k : Nat, r = .int .i64 k ∧ (k < n ∨ (n = 0 ∧ k = 0)) ∧ h = [(0, rd l (p + 1))]) := by
  refine fun_ofX (fn := Tryd.f55) (hP ▸ Tryd.func55) (by kernel_rfl) (by kernel_rfl) (by kernel_rfl) (by kernel_rfl) ?_
  have hT := TY_pick hP
  have hm : P.follows .mixedOrders = true := by subst hP; kernel_rfl
  clear hP
  intro hl
  clear hl
  have fin : ∀ (x : Int) (k : Nat), x = k → (k < n ∨ n = 0 ∧ k = 0) → ∃ r hout, (∃ k : Nat, r = AV.int .i64 k ∧ (k < n ∨ n = 0 ∧ k = 0) ∧ hout = [(0, rd l (p + 1))]) ∧ sub (AV.int .i64 x) r ∧ selH [(0, { e := 2, rows := [[B l, AV.int .i64 (↑p + 1)]], d := [], g := true })] hout :=
    fun x k hx hk => ⟨_, _, ⟨k, rfl, hk, rfl⟩, by subst hx; exact ⟨rfl, rfl⟩, rfl, trivial⟩
  simp only [Tryd.f55, hT, getByt, Int.add_sub_cancel, List.append_eq, bytB, boo, eqK, isC, convK, fitsK, List.length_append, inst, instV, instC, instT, Bool.and_false, Bool.true_and, Bool.false_and, Bool.and_true, Bool.or_true, Bool.or_false, argTm, Option.getD_some, wpcE, SeqE, BlkE, RndE, wopsE, RetE, RetXE, RetRE, resR, stp, bin, binI, numK, dstOf, St.ev, St.put, gtm, geth, seth, setAll, setRow, srcW, bndW, bldW, rowsW, setC, rdR, rdL, remh, Nat.beq, cond_true, cond_false, ofVal, resW, absC, pkR, selH, List.headD, true_and, and_true, List.toArray, AV.cells?, AV.nb, List.map_cons, List.map_nil, List.length_cons, List.length_nil, List.getD_cons_zero, List.getD_cons_succ, Nat.zero_add, Nat.reduceAdd, Nat.reduceLT, Nat.reduceLeDiff, List.drop, List.take, puL, AV.pu, Bool.and_self, packT, Nat.lt_add_one, Nat.le_refl, Bool.not_true, Bool.not_false, List.set, List.all, AV.one, List.cons_append, List.nil_append, Bool.true_or, Bool.false_or, npL, AV.np, sub, subL, List.length_map, Bool.or_self, Nat.add_zero, Int.toNat_natCast, Int.reduceToNat, List.replicate_zero, Int.toNat_zero]
  (try unfold lim); repeat first | ((with_reducible refine And.intro ?_ ?_); (first | omega | exact ⟨by omega, by omega⟩ | rfl)) | intro _
  refine If.mk (fun q => fin _ 0 rfl (.inr ⟨by have := of_decide_eq_true q; omega, rfl⟩)) (fun q => ?_)
  have hn : 1 ≤ n := by have := of_decide_eq_false q; omega
  (try unfold lim); repeat first | ((with_reducible refine And.intro ?_ ?_); (first | omega | exact ⟨by omega, by omega⟩ | rfl)) | intro _
  refine If.mk (fun q => fin _ 0 rfl (.inl hn)) (fun q => ?_)
  have hl0 : 1 ≤ l.length := by have := of_decide_eq_false q; omega
  (try unfold lim); repeat first | ((with_reducible refine And.intro ?_ ?_); (first | omega | exact ⟨by omega, by omega⟩ | rfl)) | intro _
  refine If.mk (fun q => ?_) (fun q => ?_)
  · have q : p < l.length := by simp at q; omega
    (try unfold lim); repeat first | ((with_reducible refine And.intro ?_ ?_); (first | omega | exact ⟨by omega, by omega⟩ | rfl)) | intro _
    exact fin _ ((l.getD p 0).toNat % n) rfl (.inl (Nat.mod_lt _ hn))
  · have q : l.length ≤ p := by simp at q; omega
    refine wpc_read [0, 1, 2, 3, 4, 5, 6, 7, 8, 9, 10, 11, 12, 13, 14, 15, 16, 17, 18, 19, 20, 21, 22, 23, 24, 25, 26, 27, 28, 29, 30, 31, 32, 33, 34, 35, 36, 37, 38, 39, 40, 41, 42, 43, 44, 45] hm (by kernel_rfl) ?_
    simp only [hT, getByt, wtrE, wthE, hstE, pstE, Pk, eq_self, gOp, ↓If_lit, PCall, lenP, List.getElem?_cons_zero, List.getElem?_cons_succ, Nat.reduceSub, reduceCtorEq, List.append_eq, bytB, boo, eqK, isC, convK, fitsK, List.length_append, inst, instV, instC, instT, Bool.and_false, Bool.true_and, Bool.false_and, Bool.and_true, Bool.or_true, Bool.or_false, argTm, Option.getD_some, wpcE, SeqE, BlkE, RndE, wopsE, RetE, RetXE, RetRE, resR, stp, bin, binI, numK, dstOf, St.ev, St.put, gtm, geth, seth, setAll, setRow, srcW, bndW, bldW, rowsW, setC, rdR, rdL, remh, Nat.beq, cond_true, cond_false, ofVal, resW, absC, pkR, selH, List.headD, true_and, and_true, List.toArray, AV.cells?, AV.nb, List.map_cons, List.map_nil, List.length_cons, List.length_nil, List.getD_cons_zero, List.getD_cons_succ, Nat.zero_add, Nat.reduceAdd, Nat.reduceLT, Nat.reduceLeDiff, List.drop, List.take, puL, AV.pu, Bool.and_self, packT, Nat.lt_add_one, Nat.le_refl, Bool.not_true, Bool.not_false, List.set, List.all, AV.one, List.cons_append, List.nil_append, Bool.true_or, Bool.false_or, npL, AV.np, sub, subL, List.length_map, Bool.or_self, Nat.add_zero, Int.toNat_natCast, Int.reduceToNat, List.replicate_zero, Int.toNat_zero]
    have e1 : (p : Int).tmod l.length = ((p % l.length : Nat) : Int) := rfl
    have e2 : ((p : Int) * 7 + 3).tmod l.length = (((p * 7 + 3) % l.length : Nat) : Int) := rfl
    have e3 : (p : Int).tdiv l.length = ((p / l.length : Nat) : Int) := rfl
    simp only [e1, e2, e3, Int.toNat_natCast]
    have m1 := Nat.mod_lt p hl0
    have m2 := Nat.mod_lt (p * 7 + 3) hl0
    have m3 := Nat.div_le_self p l.length
    have b1 := (l.getD (p % l.length) 0).toNat_lt
    have b2 := (l.getD ((p * 7 + 3) % l.length) 0).toNat_lt
    clear e1 e2 e3
    generalize (l.getD (p % l.length) 0).toNat = x1 at *
    generalize (l.getD ((p * 7 + 3) % l.length) 0).toNat = x2 at *
    generalize p / l.length = x3 at *
    generalize p % l.length = x4 at *
    generalize (p * 7 + 3) % l.length = x5 at *
    have e4 : (x1 : Int) * 131 + (x2 : Int) * 1117 + (p : Int) * 29 + (x3 : Int) * 53 = ((x1 * 131 + x2 * 1117 + p * 29 + x3 * 53 : Nat) : Int) := rfl
    simp only [e4]
    have hX : x1 * 131 + x2 * 1117 + p * 29 + x3 * 53 < 1000000000000 := by omega
    clear e4
    generalize x1 * 131 + x2 * 1117 + p * 29 + x3 * 53 = X at *
    have e5 : (X : Int).tdiv 64 = ((X / 64 : Nat) : Int) := rfl
    simp only [e5, xorK X (X / 64) (by omega) (by omega)]
    (try unfold lim); repeat first | ((with_reducible refine And.intro ?_ ?_); (first | omega | exact ⟨by omega, by omega⟩ | rfl)) | intro _
    exact fin _ ((X ^^^ X / 64) % n) rfl (.inl (Nat.mod_lt _ hn))
end Go.Proofs.YtiaokhgfolbhnaaDoor.C
