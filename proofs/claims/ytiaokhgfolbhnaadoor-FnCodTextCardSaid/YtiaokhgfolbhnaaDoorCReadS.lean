/- Lines read as orders, by the given text. -/
import Derived.Test.YtiaokhgfolbhnaaDoorCRead
set_option maxRecDepth 100000
set_option maxHeartbeats 4000000
set_option linter.unusedSimpArgs false
set_option linter.unusedVariables false
namespace Go.Proofs.YtiaokhgfolbhnaaDoor.C
open Go Go.Av Go.Proofs
def gl (w : List UInt8) (ws : List (List UInt8)) : List (List UInt8) := (w ++ ws.headD []) :: ws.tail
theorem gl_nil {ws : List (List UInt8)} (h : ws ≠ []) : gl [] ws = ws := by
  obtain ⟨x, r, rfl⟩ := List.exists_cons_of_ne_nil h; rfl
theorem gl_cut (w l : List UInt8) : gl w (spl (32 :: l)) = w :: gl [] (spl l) := by
  rw [gl_nil (spl_ne l)]
  simp [spl, gl]
theorem gl_add (w : List UInt8) {b : UInt8} (h : b ≠ 32) (l : List UInt8) : gl w (spl (b :: l)) = gl (w ++ [b]) (spl l) := by
  have hb : (b == 32) = false := by simpa using h
  rw [spl, hb, cond_false]
  simp [gl]
def wordsL (l : List UInt8) : List (List UInt8) := bif decide (80 < l.length) then [] else spl l
theorem map_cB_one (b : UInt8) : cB [.int .u8 (b.toNat : Int)] = b := by simp [cB]
theorem TY_words {P : Program} (hP : P = Tryd.prog) : (((mkT P 90 = some ((1, (16, ((.str ⟨([]).toArray⟩) :: []))))) ∧ (lkT P 9 = 2)) ∧ ((arT P 9 = none) ∧ (lkT P 90 = 1))) ∧ (((mkT P 22 = some ((1, (1, ((.int .u8 0) :: []))))) ∧ (utT P 22 = true)) ∧ ((intT P 9 = none) ∧ (byT P 22 = true))) := by subst hP; refine ⟨⟨⟨?_, ?_⟩, ⟨?_, ?_⟩⟩, ⟨⟨?_, ?_⟩, ⟨?_, ?_⟩⟩⟩ <;> kernel_rfl
theorem wordsS {P : Program} [Known P] (hP : P = Tryd.prog) (s : ByteArray) : Fun P 74 [.str s] (.own 1 ((wordsL s.data.toList).map strE) [.str ⟨#[]⟩]) := by
  refine fun_of (fn := Tryd.f74) (hP ▸ Tryd.func74) (by kernel_rfl) (by kernel_rfl) (by kernel_rfl) (by kernel_rfl) ?_
  have hT := TY_words hP
  clear hP
  intro hl
  clear hl
  have hsl : s.data.toList.length = s.size := rfl
  simp only [Tryd.f74, hT, List.append_eq, bytB, boo, eqK, isC, convK, fitsK, List.length_append, inst, instV, instC, instT, Bool.and_false, Bool.true_and, Bool.false_and, Bool.and_true, Bool.or_true, Bool.or_false, argTm, Option.getD_some, wpcE, SeqE, BlkE, RndE, wopsE, RetE, RetXE, RetRE, resR, stp, bin, binI, numK, dstOf, St.ev, St.put, gtm, geth, seth, setAll, setRow, srcW, bndW, bldW, rowsW, setC, rdR, rdL, remh, Nat.beq, cond_true, cond_false, ofVal, resW, absC, pkR, selH, List.headD, true_and, and_true, List.toArray, AV.cells?, AV.nb, List.map_cons, List.map_nil, List.length_cons, List.length_nil, List.getD_cons_zero, List.getD_cons_succ, Nat.zero_add, Nat.reduceAdd, Nat.reduceLT, Nat.reduceLeDiff, List.drop, List.take, puL, AV.pu, Bool.and_self, packT, Nat.lt_add_one, Nat.le_refl, Bool.not_true, Bool.not_false, List.set, List.all, AV.one, List.cons_append, List.nil_append, Bool.true_or, Bool.false_or, npL, AV.np, sub, subL, List.length_map, Bool.or_self, Nat.add_zero, Int.toNat_natCast, Int.reduceToNat, List.replicate_zero, Int.toNat_zero]
  (try unfold lim); repeat first | ((with_reducible refine And.intro ?_ ?_); (first | omega | exact ⟨by omega, by omega⟩ | rfl)) | intro _
  refine ⟨fun q => ?_, fun q => ?_⟩
  · have q : 80 < s.data.toList.length := by simp at q; omega
    unfold wordsL
    rw [decide_eq_true q]
    rfl
  · have q : ¬80 < s.data.toList.length := by simp at q; omega
    unfold wordsL
    rw [decide_eq_false q, cond_false]
    refine wpc_loop {x : Nat × List (List UInt8) × List UInt8 // x.1 ≤ s.size ∧ x.2.1.length ≤ x.1 ∧ x.2.2.length ≤ x.1 ∧ x.2.1 ++ gl x.2.2 (spl (s.data.toList.drop x.1)) = spl s.data.toList} (fun x => ⟨[(0, .str s), (3, .os 0), (4, .str ⟨x.1.2.2.toArray⟩), (5, .int .i64 x.1.1)], [(0, ⟨1, x.1.2.1.map strE, [.str ⟨#[]⟩], false⟩)], 1⟩) (fun x => s.size - x.1.1) ⟨(0, [], []), by simp, by simp, by simp, by rw [List.drop_zero, gl_nil (spl_ne _)]; rfl⟩ (Le.of [] (Nat.zero_le _) ?_ ?_ ?_) ?_
    · simp only [leT, Nat.le_refl, List.map_nil, eq_self, and_self,  leH, leO, leR, leN, lkR, ren, renL, nbl, nblL, gtm, geth, remh, sub, subL, Nat.beq, cond_true, cond_false, true_and, and_true, Nat.reduceLT, Nat.lt_add_one, Nat.zero_lt_one, Nat.zero_le, Nat.zero_add]
    · simp only [leT, Nat.le_refl, List.map_nil, eq_self, and_self,  leH, leO, leR, leN, lkR, ren, renL, nbl, nblL, gtm, geth, remh, sub, subL, Nat.beq, cond_true, cond_false, true_and, and_true, Nat.reduceLT, Nat.lt_add_one, Nat.zero_lt_one, Nat.zero_le, Nat.zero_add]; rfl
    · simp only [leT, Nat.le_refl, List.map_nil, eq_self, and_self,  leH, leO, leR, leN, lkR, ren, renL, nbl, nblL, gtm, geth, remh, sub, subL, Nat.beq, cond_true, cond_false, true_and, and_true, Nat.reduceLT, Nat.lt_add_one, Nat.zero_lt_one, Nat.zero_le, Nat.zero_add]
    · rintro ⟨⟨i, done, w⟩, hi, hd, hw, hinv⟩
      simp only at hi hd hw hinv
      by_cases hlt : i < s.size
      · have hlt' : decide ((i : Int) < s.size) = true := decide_eq_true (by omega)
        have hlt2 : (i : Int) < s.size := by omega
        have hdrop : s.data.toList.drop i = s[i]'hlt :: s.data.toList.drop (i + 1) := List.drop_eq_getElem_cons (show i < s.data.toList.length from hlt)
        have hget : s.data.getD i 0 = s[i]'hlt := by
          rw [Array.getD, dif_pos (show i < s.data.size from hlt)]; rfl
        rw [hdrop] at hinv
        simp only [hT, hlt', hget, ↓If_lit, Int.toNat_natCast, List.append_eq, bytB, boo, eqK, isC, convK, fitsK, List.length_append, inst, instV, instC, instT, Bool.and_false, Bool.true_and, Bool.false_and, Bool.and_true, Bool.or_true, Bool.or_false, argTm, Option.getD_some, wpcE, SeqE, BlkE, RndE, wopsE, RetE, RetXE, RetRE, resR, stp, bin, binI, numK, dstOf, St.ev, St.put, gtm, geth, seth, setAll, setRow, srcW, bndW, bldW, rowsW, setC, rdR, rdL, remh, Nat.beq, cond_true, cond_false, ofVal, resW, absC, pkR, selH, List.headD, true_and, and_true, List.toArray, AV.cells?, AV.nb, List.map_cons, List.map_nil, List.length_cons, List.length_nil, List.getD_cons_zero, List.getD_cons_succ, Nat.zero_add, Nat.reduceAdd, Nat.reduceLT, Nat.reduceLeDiff, List.drop, List.take, puL, AV.pu, Bool.and_self, packT, Nat.lt_add_one, Nat.le_refl, Bool.not_true, Bool.not_false, List.set, List.all, AV.one, List.cons_append, List.nil_append, Bool.true_or, Bool.false_or, npL, AV.np, sub, subL, List.length_map, Bool.or_self, Nat.add_zero, Int.toNat_natCast, Int.reduceToNat, List.replicate_zero, Int.toNat_zero]
        (try unfold lim); repeat first | ((with_reducible refine And.intro ?_ ?_); (first | omega | exact ⟨by omega, by omega⟩ | rfl)) | intro _
        refine ⟨fun q2 => ?_, fun q2 => ?_⟩
        · have q2 : s[i]'hlt = 32 := by
            rw [← UInt8.toNat_inj]
            simp only [decide_eq_true_eq] at q2
            show _ = 32
            omega
          rw [q2, gl_cut] at hinv
          refine ⟨by decide, by decide, fun _ => ⟨by omega, ⟨by omega, by omega⟩, ⟨(i + 1, done ++ [w], []), by simp only; omega, by simp; omega, by simp, ?_⟩, by simp only; omega, Le.of [(0, some 2)] (Nat.zero_le _) ?_ ?_ ?_⟩⟩
          · simp only [List.append_assoc, List.singleton_append]; exact hinv
          · simp only [leT, Nat.le_refl, List.map_nil, eq_self, and_self,  leH, leO, leR, leN, lkR, ren, renL, nbl, nblL, gtm, geth, remh, sub, subL, Nat.beq, cond_true, cond_false, true_and, and_true, Nat.reduceLT, Nat.lt_add_one, Nat.zero_lt_one, Nat.zero_le, Nat.zero_add]
          · simp only [leT, Nat.le_refl, List.map_nil, eq_self, and_self,  leH, leO, leR, leN, lkR, ren, renL, nbl, nblL, gtm, geth, remh, sub, subL, Nat.beq, cond_true, cond_false, true_and, and_true, Nat.reduceLT, Nat.lt_add_one, Nat.zero_lt_one, Nat.zero_le, Nat.zero_add]; rfl
          · simp only [List.map_append, leT, Nat.le_refl, List.map_nil, eq_self, and_self,  leH, leO, leR, leN, lkR, ren, renL, nbl, nblL, gtm, geth, remh, sub, subL, Nat.beq, cond_true, cond_false, true_and, and_true, Nat.reduceLT, Nat.lt_add_one, Nat.zero_lt_one, Nat.zero_le, Nat.zero_add]; rfl
        · have q2 : s[i]'hlt ≠ 32 := by
            intro h
            rw [h] at q2
            simp at q2
          rw [gl_add w q2] at hinv
          have hcb := map_cB_one (s[i]'hlt)
          have happ : ByteArray.mk ⟨w⟩ ++ ByteArray.mk ⟨[s[i]'hlt]⟩ = ByteArray.mk ⟨w ++ [s[i]'hlt]⟩ := by apply ByteArray.ext; simp
          simp only [hcb, happ]
          (try unfold lim); repeat first | ((with_reducible refine And.intro ?_ ?_); (first | omega | exact ⟨by omega, by omega⟩ | rfl)) | intro _
          have hws : (ByteArray.mk ⟨w⟩).size = w.length := rfl
          have hbs : (ByteArray.mk ⟨[s[i]'hlt]⟩).size = 1 := rfl
          refine ⟨by rw [hws, hbs]; omega, ⟨by omega, by omega⟩, ⟨(i + 1, done, w ++ [s[i]'hlt]), by simp only; omega, by simp only; omega, by simp; omega, hinv⟩, by simp only; omega, Le.of [] (Nat.zero_le _) ?_ ?_ ?_⟩
          · simp only [leT, Nat.le_refl, List.map_nil, eq_self, and_self,  leH, leO, leR, leN, lkR, ren, renL, nbl, nblL, gtm, geth, remh, sub, subL, Nat.beq, cond_true, cond_false, true_and, and_true, Nat.reduceLT, Nat.lt_add_one, Nat.zero_lt_one, Nat.zero_le, Nat.zero_add]
          · simp only [leT, Nat.le_refl, List.map_nil, eq_self, and_self,  leH, leO, leR, leN, lkR, ren, renL, nbl, nblL, gtm, geth, remh, sub, subL, Nat.beq, cond_true, cond_false, true_and, and_true, Nat.reduceLT, Nat.lt_add_one, Nat.zero_lt_one, Nat.zero_le, Nat.zero_add]; rfl
          · simp only [leT, Nat.le_refl, List.map_nil, eq_self, and_self,  leH, leO, leR, leN, lkR, ren, renL, nbl, nblL, gtm, geth, remh, sub, subL, Nat.beq, cond_true, cond_false, true_and, and_true, Nat.reduceLT, Nat.lt_add_one, Nat.zero_lt_one, Nat.zero_le, Nat.zero_add]
      · obtain rfl : i = s.size := by omega
        have hlt' : decide ((s.size : Int) < s.size) = false := decide_eq_false (by omega)
        simp only [hT, hlt', ↓If_lit, List.append_eq, bytB, boo, eqK, isC, convK, fitsK, List.length_append, inst, instV, instC, instT, Bool.and_false, Bool.true_and, Bool.false_and, Bool.and_true, Bool.or_true, Bool.or_false, argTm, Option.getD_some, wpcE, SeqE, BlkE, RndE, wopsE, RetE, RetXE, RetRE, resR, stp, bin, binI, numK, dstOf, St.ev, St.put, gtm, geth, seth, setAll, setRow, srcW, bndW, bldW, rowsW, setC, rdR, rdL, remh, Nat.beq, cond_true, cond_false, ofVal, resW, absC, pkR, selH, List.headD, true_and, and_true, List.toArray, AV.cells?, AV.nb, List.map_cons, List.map_nil, List.length_cons, List.length_nil, List.getD_cons_zero, List.getD_cons_succ, Nat.zero_add, Nat.reduceAdd, Nat.reduceLT, Nat.reduceLeDiff, List.drop, List.take, puL, AV.pu, Bool.and_self, packT, Nat.lt_add_one, Nat.le_refl, Bool.not_true, Bool.not_false, List.set, List.all, AV.one, List.cons_append, List.nil_append, Bool.true_or, Bool.false_or, npL, AV.np, sub, subL, List.length_map, Bool.or_self, Nat.add_zero, Int.toNat_natCast, Int.reduceToNat, List.replicate_zero, Int.toNat_zero]
        (try unfold lim); repeat first | ((with_reducible refine And.intro ?_ ?_); (first | omega | exact ⟨by omega, by omega⟩ | rfl)) | intro _
        rw [List.drop_eq_nil_of_le (by rw [hsl]; exact Nat.le_refl _)] at hinv
        rw [← hinv]
        simp [spl, gl, strE]
def numS (o : Option Nat) : Int := match o with
  | some n => n
  | none => -1
theorem valN_getD (l : List UInt8) (i a : Nat) (h : i < l.length) : valN (l.drop i) a = bif decide (48 ≤ (l.getD i 0).toNat) && decide ((l.getD i 0).toNat ≤ 57) then valN (l.drop (i + 1)) (a * 10 + ((l.getD i 0).toNat - 48)) else none := by
  rw [List.drop_eq_getElem_cons h, valN, List.getD_eq_getElem?_getD, List.getElem?_eq_getElem h]
  rfl
theorem TY_numb {P : Program} (hP : P = Tryd.prog) : ((lkT P 9 = 2) ∧ ((arT P 9 = none) ∧ (utT P 5 = true))) ∧ ((intT P 3 = some (.i64)) ∧ ((lkT P 3 = 0) ∧ (byT P 5 = false))) := by subst hP; refine ⟨⟨?_, ⟨?_, ?_⟩⟩, ⟨?_, ⟨?_, ?_⟩⟩⟩ <;> kernel_rfl
theorem numbS {P : Program} [Known P] (hP : P = Tryd.prog) (w : List UInt8) : Fun P 90 [.str ⟨w.toArray⟩] (.int .i64 (numS (rdn w))) := by
  refine fun_of (fn := Tryd.f90) (hP ▸ Tryd.func90) (by kernel_rfl) (by kernel_rfl) (by kernel_rfl) (by kernel_rfl) ?_
  have hT := TY_numb hP
  clear hP
  intro hl
  simp only [limL, limA, and_true] at hl
  have hws : (ByteArray.mk ⟨w⟩).size = w.length := rfl
  have hgd : ∀ i, (Array.mk w).getD i 0 = w.getD i 0 := fun i => by
    rw [Array.getD, List.getD_eq_getElem?_getD]
    split
    · rename_i h
      rw [List.getElem?_eq_getElem (show i < w.length from h)]; rfl
    · rename_i h
      rw [List.getElem?_eq_none (by have : ¬i < w.length := h; omega)]; rfl
  simp only [Tryd.f90, hT, hws, hgd, List.append_eq, bytB, boo, eqK, isC, convK, fitsK, List.length_append, inst, instV, instC, instT, Bool.and_false, Bool.true_and, Bool.false_and, Bool.and_true, Bool.or_true, Bool.or_false, argTm, Option.getD_some, wpcE, SeqE, BlkE, RndE, wopsE, RetE, RetXE, RetRE, resR, stp, bin, binI, numK, dstOf, St.ev, St.put, gtm, geth, seth, setAll, setRow, srcW, bndW, bldW, rowsW, setC, rdR, rdL, remh, Nat.beq, cond_true, cond_false, ofVal, resW, absC, pkR, selH, List.headD, true_and, and_true, List.toArray, AV.cells?, AV.nb, List.map_cons, List.map_nil, List.length_cons, List.length_nil, List.getD_cons_zero, List.getD_cons_succ, Nat.zero_add, Nat.reduceAdd, Nat.reduceLT, Nat.reduceLeDiff, List.drop, List.take, puL, AV.pu, Bool.and_self, packT, Nat.lt_add_one, Nat.le_refl, Bool.not_true, Bool.not_false, List.set, List.all, AV.one, List.cons_append, List.nil_append, Bool.true_or, Bool.false_or, npL, AV.np, sub, subL, List.length_map, Bool.or_self, Nat.add_zero, Int.toNat_natCast, Int.reduceToNat, List.replicate_zero, Int.toNat_zero]
  refine fun _ => ⟨fun q => ?_, fun q _ => ⟨fun q2 => ?_, fun q2 _ => ⟨fun q3 => ⟨by decide, by simp at q3; omega, ⟨fun q4 => ?_, fun q4 => ?_⟩⟩, fun q3 => ?_⟩⟩⟩
  · rw [rdn_none (.inl (by simp at q; simp [q]))]; rfl
  · rw [rdn_none (.inr (.inl (by simp at q2; omega)))]; rfl
  · have e : w.headD 0 = w.getD 0 0 := by cases w <;> rfl
    rw [rdn_none (.inr (.inr ⟨by rw [e]; simp only [decide_eq_true_eq] at q4; omega, by simp at q3; omega⟩))]; rfl
  all_goals
    have hr : rdn w = valN w 0 := by
      have e : w.headD 0 = w.getD 0 0 := by cases w <;> rfl
      refine rdn_some ?_ ?_ ?_
      · simp at q; intro h; exact q (List.length_eq_zero_iff.1 h)
      · simp at q2; omega
      · rw [e]; rintro ⟨h1, h2⟩
        first
          | (simp only [decide_eq_false_iff_not] at q4; omega)
          | (simp only [decide_eq_false_iff_not] at q3; omega)
    have h10 : w.length ≤ 10 := by simp at q2; omega
    refine wpc_loop {x : Nat × Nat // x.1 ≤ w.length ∧ x.2 < 10 ^ x.1 ∧ valN (w.drop x.1) x.2 = rdn w} (fun x => ⟨[(0, .str ⟨⟨w⟩⟩), (3, .int .i64 x.1.2), (4, .int .i64 x.1.1)], [], 0⟩) (fun x => w.length - x.1.1) ⟨(0, 0), by simp, by simp, by rw [hr]; rfl⟩ (Le.of [] (Nat.zero_le _) ?_ ?_ ?_) ?_
    · simp only [leT, Nat.le_refl, List.map_nil, eq_self, and_self,  leH, leO, leR, leN, lkR, ren, renL, nbl, nblL, gtm, geth, remh, sub, subL, Nat.beq, cond_true, cond_false, true_and, and_true, Nat.reduceLT, Nat.lt_add_one, Nat.zero_lt_one, Nat.zero_le, Nat.zero_add]
    · simp only [leT, Nat.le_refl, List.map_nil, eq_self, and_self,  leH, leO, leR, leN, lkR, ren, renL, nbl, nblL, gtm, geth, remh, sub, subL, Nat.beq, cond_true, cond_false, true_and, and_true, Nat.reduceLT, Nat.lt_add_one, Nat.zero_lt_one, Nat.zero_le, Nat.zero_add]; rfl
    · simp only [leT, Nat.le_refl, List.map_nil, eq_self, and_self,  leH, leO, leR, leN, lkR, ren, renL, nbl, nblL, gtm, geth, remh, sub, subL, Nat.beq, cond_true, cond_false, true_and, and_true, Nat.reduceLT, Nat.lt_add_one, Nat.zero_lt_one, Nat.zero_le, Nat.zero_add]
    · clear hr q q2 q3
      rintro ⟨⟨i, n⟩, hi, hn, hinv⟩
      simp only at hi hn hinv
      have hpow : 10 ^ i ≤ 10 ^ 10 := Nat.pow_le_pow_right (by decide) (by omega)
      by_cases hlt : i < w.length
      · have hlt' : decide ((i : Int) < w.length) = true := decide_eq_true (by omega)
        have hpow2 : 10 ^ (i + 1) = 10 ^ i * 10 := Nat.pow_succ ..
        rw [valN_getD w i n hlt] at hinv
        simp only [hT, hlt', hws, hgd, ↓If_lit, Int.toNat_natCast, List.append_eq, bytB, boo, eqK, isC, convK, fitsK, List.length_append, inst, instV, instC, instT, Bool.and_false, Bool.true_and, Bool.false_and, Bool.and_true, Bool.or_true, Bool.or_false, argTm, Option.getD_some, wpcE, SeqE, BlkE, RndE, wopsE, RetE, RetXE, RetRE, resR, stp, bin, binI, numK, dstOf, St.ev, St.put, gtm, geth, seth, setAll, setRow, srcW, bndW, bldW, rowsW, setC, rdR, rdL, remh, Nat.beq, cond_true, cond_false, ofVal, resW, absC, pkR, selH, List.headD, true_and, and_true, List.toArray, AV.cells?, AV.nb, List.map_cons, List.map_nil, List.length_cons, List.length_nil, List.getD_cons_zero, List.getD_cons_succ, Nat.zero_add, Nat.reduceAdd, Nat.reduceLT, Nat.reduceLeDiff, List.drop, List.take, puL, AV.pu, Bool.and_self, packT, Nat.lt_add_one, Nat.le_refl, Bool.not_true, Bool.not_false, List.set, List.all, AV.one, List.cons_append, List.nil_append, Bool.true_or, Bool.false_or, npL, AV.np, sub, subL, List.length_map, Bool.or_self, Nat.add_zero, Int.toNat_natCast, Int.reduceToNat, List.replicate_zero, Int.toNat_zero]
        generalize w.getD i 0 = c at *
        have hc := c.toNat_lt
        (try unfold lim); repeat first | ((with_reducible refine And.intro ?_ ?_); (first | omega | exact ⟨by omega, by omega⟩ | rfl)) | intro _
        refine ⟨fun q5 => ?_, fun q5 => ?_⟩
        · rw [decide_eq_false (show ¬48 ≤ c.toNat by simp only [decide_eq_true_eq] at q5; omega)] at hinv
          rw [← hinv]; rfl
        · (try unfold lim); repeat first | ((with_reducible refine And.intro ?_ ?_); (first | omega | exact ⟨by omega, by omega⟩ | rfl)) | intro _
          refine ⟨fun q6 => ?_, fun q6 => ?_⟩
          · rw [decide_eq_false (show ¬c.toNat ≤ 57 by simp only [decide_eq_true_eq] at q6; omega), Bool.and_false] at hinv
            rw [← hinv]; rfl
          · simp only [decide_eq_false_iff_not] at q5 q6
            rw [decide_eq_true (show 48 ≤ c.toNat by omega), decide_eq_true (show c.toNat ≤ 57 by omega)] at hinv
            have hw8 : IntKind.u8.wrap ((c.toNat : Int) - 48) = ((c.toNat - 48 : Nat) : Int) := by
              rw [(wrap_iff _ _).2]
              · omega
              · simp [IntKind.signed, IntKind.bits]; omega
            simp only [hw8]
            (try unfold lim); repeat first | ((with_reducible refine And.intro ?_ ?_); (first | omega | exact ⟨by omega, by omega⟩ | rfl)) | intro _
            refine ⟨⟨(i + 1, n * 10 + (c.toNat - 48)), by simp only; omega, by simp only; omega, hinv⟩, by simp only; omega, Le.of [] (Nat.zero_le _) ?_ ?_ ?_⟩
            · simp only [leT, Nat.le_refl, List.map_nil, eq_self, and_self,  leH, leO, leR, leN, lkR, ren, renL, nbl, nblL, gtm, geth, remh, sub, subL, Nat.beq, cond_true, cond_false, true_and, and_true, Nat.reduceLT, Nat.lt_add_one, Nat.zero_lt_one, Nat.zero_le, Nat.zero_add]
            · simp only [leT, Nat.le_refl, List.map_nil, eq_self, and_self,  leH, leO, leR, leN, lkR, ren, renL, nbl, nblL, gtm, geth, remh, sub, subL, Nat.beq, cond_true, cond_false, true_and, and_true, Nat.reduceLT, Nat.lt_add_one, Nat.zero_lt_one, Nat.zero_le, Nat.zero_add]; exact ⟨by omega, by omega⟩
            · simp only [leT, Nat.le_refl, List.map_nil, eq_self, and_self,  leH, leO, leR, leN, lkR, ren, renL, nbl, nblL, gtm, geth, remh, sub, subL, Nat.beq, cond_true, cond_false, true_and, and_true, Nat.reduceLT, Nat.lt_add_one, Nat.zero_lt_one, Nat.zero_le, Nat.zero_add]
      · obtain rfl : i = w.length := by omega
        have hlt' : decide ((w.length : Int) < w.length) = false := decide_eq_false (by omega)
        simp only [hT, hlt', hws, ↓If_lit, List.append_eq, bytB, boo, eqK, isC, convK, fitsK, List.length_append, inst, instV, instC, instT, Bool.and_false, Bool.true_and, Bool.false_and, Bool.and_true, Bool.or_true, Bool.or_false, argTm, Option.getD_some, wpcE, SeqE, BlkE, RndE, wopsE, RetE, RetXE, RetRE, resR, stp, bin, binI, numK, dstOf, St.ev, St.put, gtm, geth, seth, setAll, setRow, srcW, bndW, bldW, rowsW, setC, rdR, rdL, remh, Nat.beq, cond_true, cond_false, ofVal, resW, absC, pkR, selH, List.headD, true_and, and_true, List.toArray, AV.cells?, AV.nb, List.map_cons, List.map_nil, List.length_cons, List.length_nil, List.getD_cons_zero, List.getD_cons_succ, Nat.zero_add, Nat.reduceAdd, Nat.reduceLT, Nat.reduceLeDiff, List.drop, List.take, puL, AV.pu, Bool.and_self, packT, Nat.lt_add_one, Nat.le_refl, Bool.not_true, Bool.not_false, List.set, List.all, AV.one, List.cons_append, List.nil_append, Bool.true_or, Bool.false_or, npL, AV.np, sub, subL, List.length_map, Bool.or_self, Nat.add_zero, Int.toNat_natCast, Int.reduceToNat, List.replicate_zero, Int.toNat_zero]
        (try unfold lim); repeat first | ((with_reducible refine And.intro ?_ ?_); (first | omega | exact ⟨by omega, by omega⟩ | rfl)) | intro _
        rw [← hinv, List.drop_length]
        rfl
theorem atS_eq (ws : List (List UInt8)) (k : Nat) : atS ws k = bif decide (k < ws.length) then numS (rdn (ws.getD k [])) else 0 := by
  unfold atS numS; rfl
theorem TY_atC {P : Program} (hP : P = Tryd.prog) : (lkT P 90 = 1) ∧ ((elT P 90 = some ((false, (1, 16)))) ∧ (tyT P 9 = some ((false, 1)))) := by subst hP; refine ⟨?_, ⟨?_, ?_⟩⟩ <;> kernel_rfl
theorem atC {P : Program} [Known P] (hP : P = Tryd.prog) (ws : List (List UInt8)) (k : Nat) : Fun P 75 [.sl 1 (ws.map strE) [.str ⟨#[]⟩], .int .i64 k] (.int .i64 (atS ws k)) := by
  refine fun_of (fn := Tryd.f75) (hP ▸ Tryd.func75) (by kernel_rfl) (by kernel_rfl) (by kernel_rfl) (by kernel_rfl) ?_
  have hT := TY_atC hP
  have nn := fun w => numbS hP w
  clear hP
  intro hl
  clear hl
  rw [atS_eq]
  simp only [Tryd.f75, hT, List.append_eq, bytB, boo, eqK, isC, convK, fitsK, List.length_append, inst, instV, instC, instT, Bool.and_false, Bool.true_and, Bool.false_and, Bool.and_true, Bool.or_true, Bool.or_false, argTm, Option.getD_some, wpcE, SeqE, BlkE, RndE, wopsE, RetE, RetXE, RetRE, resR, stp, bin, binI, numK, dstOf, St.ev, St.put, gtm, geth, seth, setAll, setRow, srcW, bndW, bldW, rowsW, setC, rdR, rdL, remh, Nat.beq, cond_true, cond_false, ofVal, resW, absC, pkR, selH, List.headD, true_and, and_true, List.toArray, AV.cells?, AV.nb, List.map_cons, List.map_nil, List.length_cons, List.length_nil, List.getD_cons_zero, List.getD_cons_succ, Nat.zero_add, Nat.reduceAdd, Nat.reduceLT, Nat.reduceLeDiff, List.drop, List.take, puL, AV.pu, Bool.and_self, packT, Nat.lt_add_one, Nat.le_refl, Bool.not_true, Bool.not_false, List.set, List.all, AV.one, List.cons_append, List.nil_append, Bool.true_or, Bool.false_or, npL, AV.np, sub, subL, List.length_map, Bool.or_self, Nat.add_zero, Int.toNat_natCast, Int.reduceToNat, List.replicate_zero, Int.toNat_zero]
  refine fun _ => ⟨fun q => ?_, fun q => ?_⟩
  · rw [decide_eq_false (show ¬k < ws.length by simp only [decide_eq_true_eq] at q; omega)]; rfl
  · have q : k < ws.length := by simp only [decide_eq_false_iff_not] at q; omega
    rw [decide_eq_true q]
    have hgi : ∀ d, (ws.map strE).getD k d = strE (ws.getD k []) := fun d => by
      simp only [List.getD_eq_getElem?_getD, List.getElem?_map, List.getElem?_eq_getElem q, Option.map_some, Option.getD_some]
    simp only [hgi, strE, Int.toNat_natCast, List.append_eq, bytB, boo, eqK, isC, convK, fitsK, List.length_append, inst, instV, instC, instT, Bool.and_false, Bool.true_and, Bool.false_and, Bool.and_true, Bool.or_true, Bool.or_false, argTm, Option.getD_some, wpcE, SeqE, BlkE, RndE, wopsE, RetE, RetXE, RetRE, resR, stp, bin, binI, numK, dstOf, St.ev, St.put, gtm, geth, seth, setAll, setRow, srcW, bndW, bldW, rowsW, setC, rdR, rdL, remh, Nat.beq, cond_true, cond_false, ofVal, resW, absC, pkR, selH, List.headD, true_and, and_true, List.toArray, AV.cells?, AV.nb, List.map_cons, List.map_nil, List.length_cons, List.length_nil, List.getD_cons_zero, List.getD_cons_succ, Nat.zero_add, Nat.reduceAdd, Nat.reduceLT, Nat.reduceLeDiff, List.drop, List.take, puL, AV.pu, Bool.and_self, packT, Nat.lt_add_one, Nat.le_refl, Bool.not_true, Bool.not_false, List.set, List.all, AV.one, List.cons_append, List.nil_append, Bool.true_or, Bool.false_or, npL, AV.np, sub, subL, List.length_map, Bool.or_self, Nat.add_zero, Int.toNat_natCast, Int.reduceToNat, List.replicate_zero, Int.toNat_zero]
    (try unfold lim); repeat first | ((with_reducible refine And.intro ?_ ?_); (first | omega | exact ⟨by omega, by omega⟩ | rfl)) | intro _
    refine Fun.plain (nn _) rfl rfl rfl rfl ?_; simp only [hT, nneg, beq_self_eq_true, decide_true, decide_false, ↓If_lit, Int.cast_ofNat_Int, Int.reduceLT, Int.reduceLE, List.append_eq, bytB, boo, eqK, isC, convK, fitsK, List.length_append, inst, instV, instC, instT, Bool.and_false, Bool.true_and, Bool.false_and, Bool.and_true, Bool.or_true, Bool.or_false, argTm, Option.getD_some, wpcE, SeqE, BlkE, RndE, wopsE, RetE, RetXE, RetRE, resR, stp, bin, binI, numK, dstOf, St.ev, St.put, gtm, geth, seth, setAll, setRow, srcW, bndW, bldW, rowsW, setC, rdR, rdL, remh, Nat.beq, cond_true, cond_false, ofVal, resW, absC, pkR, selH, List.headD, true_and, and_true, List.toArray, AV.cells?, AV.nb, List.map_cons, List.map_nil, List.length_cons, List.length_nil, List.getD_cons_zero, List.getD_cons_succ, Nat.zero_add, Nat.reduceAdd, Nat.reduceLT, Nat.reduceLeDiff, List.drop, List.take, puL, AV.pu, Bool.and_self, packT, Nat.lt_add_one, Nat.le_refl, Bool.not_true, Bool.not_false, List.set, List.all, AV.one, List.cons_append, List.nil_append, Bool.true_or, Bool.false_or, npL, AV.np, sub, subL, List.length_map, Bool.or_self, Nat.add_zero, Int.toNat_natCast, Int.reduceToNat, List.replicate_zero, Int.toNat_zero]; (try unfold lim); repeat first | ((with_reducible refine And.intro ?_ ?_); (first | omega | exact ⟨by omega, by omega⟩ | rfl)) | intro _
theorem trI_wd {n : Nat} {ws : List (List UInt8)} {o : VOrd} (h : trI n ws = some o) : wd n = ws.headD [] := by
  unfold trI at h
  rw [cond_some] at h
  simp only [Bool.and_eq_true, mt, decide_eq_true_eq] at h
  exact h.1.1.1
theorem TY_readS {P : Program} (hP : P = Tryd.prog) : (((P.follows .mixedOrders = true) ∧ (zeroT P 53 = some (((.int .i64 0) :: ((.int .i64 0) :: ((.int .i64 0) :: ((.int .i64 0) :: []))))))) ∧ ((lkT P 90 = 1) ∧ ((elT P 90 = some ((false, (1, 16)))) ∧ (tyT P 9 = some ((false, 1)))))) ∧ (((bldT P 53 = true) ∧ ((plT P 53 0 = some ((0, 1))) ∧ (plT P 53 1 = some ((1, 1))))) ∧ ((plT P 53 2 = some ((2, 1))) ∧ ((plT P 53 3 = some ((3, 1))) ∧ (tyT P 53 = some ((true, 4)))))) := by subst hP; refine ⟨⟨⟨?_, ?_⟩, ⟨?_, ⟨?_, ?_⟩⟩⟩, ⟨⟨?_, ⟨?_, ?_⟩⟩, ⟨?_, ⟨?_, ?_⟩⟩⟩⟩ <;> kernel_rfl
theorem readCS {P : Program} [Known P] (hP : P = Tryd.prog) (s : ByteArray) : Fun P 39 [.str s] (readT (codR s.data.toList)) := by
  refine fun_of (fn := Tryd.f39) (hP ▸ Tryd.func39) (by kernel_rfl) (by kernel_rfl) (by kernel_rfl) (by kernel_rfl) ?_
  have hT := TY_readS hP
  have hm : P.follows .mixedOrders = true := by subst hP; kernel_rfl
  have wl := wordsS hP s
  have nn := fun n h => nameS hP n h
  have at' := fun ws k => atC hP ws k
  have ok := fun o => ordOkS hP o
  have cl := fun o => codLineS hP o
  clear hP
  intro hl
  clear hl
  unfold codR
  have hlen : s.data.toList.length = s.size := rfl
  by_cases h80 : 80 < s.data.toList.length
  · rw [codF_none (fun n => trI_long h80)]
    unfold wordsL at wl
    rw [decide_eq_true h80, cond_true, List.map_nil] at wl
    simp only [Tryd.f39, hT, List.append_eq, bytB, boo, eqK, isC, convK, fitsK, List.length_append, inst, instV, instC, instT, Bool.and_false, Bool.true_and, Bool.false_and, Bool.and_true, Bool.or_true, Bool.or_false, argTm, Option.getD_some, wpcE, SeqE, BlkE, RndE, wopsE, RetE, RetXE, RetRE, resR, stp, bin, binI, numK, dstOf, St.ev, St.put, gtm, geth, seth, setAll, setRow, srcW, bndW, bldW, rowsW, setC, rdR, rdL, remh, Nat.beq, cond_true, cond_false, ofVal, resW, absC, pkR, selH, List.headD, true_and, and_true, List.toArray, AV.cells?, AV.nb, List.map_cons, List.map_nil, List.length_cons, List.length_nil, List.getD_cons_zero, List.getD_cons_succ, Nat.zero_add, Nat.reduceAdd, Nat.reduceLT, Nat.reduceLeDiff, List.drop, List.take, puL, AV.pu, Bool.and_self, packT, Nat.lt_add_one, Nat.le_refl, Bool.not_true, Bool.not_false, List.set, List.all, AV.one, List.cons_append, List.nil_append, Bool.true_or, Bool.false_or, npL, AV.np, sub, subL, List.length_map, Bool.or_self, Nat.add_zero, Int.toNat_natCast, Int.reduceToNat, List.replicate_zero, Int.toNat_zero]
    refine Fun.plain (wl) rfl rfl rfl rfl ?_; simp only [hT, nneg, beq_self_eq_true, decide_true, decide_false, ↓If_lit, Int.cast_ofNat_Int, Int.reduceLT, Int.reduceLE, List.append_eq, bytB, boo, eqK, isC, convK, fitsK, List.length_append, inst, instV, instC, instT, Bool.and_false, Bool.true_and, Bool.false_and, Bool.and_true, Bool.or_true, Bool.or_false, argTm, Option.getD_some, wpcE, SeqE, BlkE, RndE, wopsE, RetE, RetXE, RetRE, resR, stp, bin, binI, numK, dstOf, St.ev, St.put, gtm, geth, seth, setAll, setRow, srcW, bndW, bldW, rowsW, setC, rdR, rdL, remh, Nat.beq, cond_true, cond_false, ofVal, resW, absC, pkR, selH, List.headD, true_and, and_true, List.toArray, AV.cells?, AV.nb, List.map_cons, List.map_nil, List.length_cons, List.length_nil, List.getD_cons_zero, List.getD_cons_succ, Nat.zero_add, Nat.reduceAdd, Nat.reduceLT, Nat.reduceLeDiff, List.drop, List.take, puL, AV.pu, Bool.and_self, packT, Nat.lt_add_one, Nat.le_refl, Bool.not_true, Bool.not_false, List.set, List.all, AV.one, List.cons_append, List.nil_append, Bool.true_or, Bool.false_or, npL, AV.np, sub, subL, List.length_map, Bool.or_self, Nat.add_zero, Int.toNat_natCast, Int.reduceToNat, List.replicate_zero, Int.toNat_zero]; (try unfold lim); repeat first | ((with_reducible refine And.intro ?_ ?_); (first | omega | exact ⟨by omega, by omega⟩ | rfl)) | intro _
    refine wpc_loop Unit (fun _ => ⟨[(2, .cp 0 0 0), (3, .ff), (4, .os 1), (5, .int .i64 1)], [(1, ⟨1, [], [.str ⟨#[]⟩], false⟩), (0, ⟨4, [[.int .i64 0, .int .i64 0, .int .i64 0, .int .i64 0]], [], true⟩)], 2⟩) (fun _ => 0) () (Le.of [] (Nat.zero_le _) ?_ ?_ ?_) ?_
    · simp only [leT, Nat.le_refl, List.map_nil, eq_self, and_self,  leH, leO, leR, leN, lkR, ren, renL, nbl, nblL, gtm, geth, remh, sub, subL, Nat.beq, cond_true, cond_false, true_and, and_true, Nat.reduceLT, Nat.lt_add_one, Nat.zero_lt_one, Nat.zero_le, Nat.zero_add]
    · simp only [leT, Nat.le_refl, List.map_nil, eq_self, and_self,  leH, leO, leR, leN, lkR, ren, renL, nbl, nblL, gtm, geth, remh, sub, subL, Nat.beq, cond_true, cond_false, true_and, and_true, Nat.reduceLT, Nat.lt_add_one, Nat.zero_lt_one, Nat.zero_le, Nat.zero_add]
    · simp only [leT, Nat.le_refl, List.map_nil, eq_self, and_self,  leH, leO, leR, leN, lkR, ren, renL, nbl, nblL, gtm, geth, remh, sub, subL, Nat.beq, cond_true, cond_false, true_and, and_true, Nat.reduceLT, Nat.lt_add_one, Nat.zero_lt_one, Nat.zero_le, Nat.zero_add]
    · intro _
      simp only [hT, Int.reduceLE, Int.reduceLT, decide_true, decide_false, Int.natCast_zero, ↓If_lit, List.append_eq, bytB, boo, eqK, isC, convK, fitsK, List.length_append, inst, instV, instC, instT, Bool.and_false, Bool.true_and, Bool.false_and, Bool.and_true, Bool.or_true, Bool.or_false, argTm, Option.getD_some, wpcE, SeqE, BlkE, RndE, wopsE, RetE, RetXE, RetRE, resR, stp, bin, binI, numK, dstOf, St.ev, St.put, gtm, geth, seth, setAll, setRow, srcW, bndW, bldW, rowsW, setC, rdR, rdL, remh, Nat.beq, cond_true, cond_false, ofVal, resW, absC, pkR, selH, List.headD, true_and, and_true, List.toArray, AV.cells?, AV.nb, List.map_cons, List.map_nil, List.length_cons, List.length_nil, List.getD_cons_zero, List.getD_cons_succ, Nat.zero_add, Nat.reduceAdd, Nat.reduceLT, Nat.reduceLeDiff, List.drop, List.take, puL, AV.pu, Bool.and_self, packT, Nat.lt_add_one, Nat.le_refl, Bool.not_true, Bool.not_false, List.set, List.all, AV.one, List.cons_append, List.nil_append, Bool.true_or, Bool.false_or, npL, AV.np, sub, subL, List.length_map, Bool.or_self, Nat.add_zero, Int.toNat_natCast, Int.reduceToNat, List.replicate_zero, Int.toNat_zero]
      exact fun _ => none_sub
  · unfold wordsL at wl
    rw [decide_eq_false h80, cond_false] at wl
    have e0 : ∀ n, trS n s.data.toList (spl s.data.toList) = trI n (spl s.data.toList) := fun n => trS_eq
    have hne := spl_ne s.data.toList
    generalize spl s.data.toList = ws at *
    obtain ⟨x, r, rfl⟩ := List.exists_cons_of_ne_nil hne
    clear hne
    have hrd : rdR ([AV.str (ByteArray.mk (Array.mk x))] :: r.map strE) = [AV.str (ByteArray.mk (Array.mk x))] :: r.map strE := rdR_map strE (fun _ => rfl) (x :: r)
    simp only [List.map_cons] at wl
    simp only [Tryd.f39, hT, List.append_eq, bytB, boo, eqK, isC, convK, fitsK, List.length_append, inst, instV, instC, instT, Bool.and_false, Bool.true_and, Bool.false_and, Bool.and_true, Bool.or_true, Bool.or_false, argTm, Option.getD_some, wpcE, SeqE, BlkE, RndE, wopsE, RetE, RetXE, RetRE, resR, stp, bin, binI, numK, dstOf, St.ev, St.put, gtm, geth, seth, setAll, setRow, srcW, bndW, bldW, rowsW, setC, rdR, rdL, remh, Nat.beq, cond_true, cond_false, ofVal, resW, absC, pkR, selH, List.headD, true_and, and_true, List.toArray, AV.cells?, AV.nb, List.map_cons, List.map_nil, List.length_cons, List.length_nil, List.getD_cons_zero, List.getD_cons_succ, Nat.zero_add, Nat.reduceAdd, Nat.reduceLT, Nat.reduceLeDiff, List.drop, List.take, puL, AV.pu, Bool.and_self, packT, Nat.lt_add_one, Nat.le_refl, Bool.not_true, Bool.not_false, List.set, List.all, AV.one, List.cons_append, List.nil_append, Bool.true_or, Bool.false_or, npL, AV.np, sub, subL, List.length_map, Bool.or_self, Nat.add_zero, Int.toNat_natCast, Int.reduceToNat, List.replicate_zero, Int.toNat_zero]
    refine Fun.plain (wl) rfl rfl rfl rfl ?_; simp only [hT, nneg, beq_self_eq_true, decide_true, decide_false, ↓If_lit, Int.cast_ofNat_Int, Int.reduceLT, Int.reduceLE, List.append_eq, bytB, boo, eqK, isC, convK, fitsK, List.length_append, inst, instV, instC, instT, Bool.and_false, Bool.true_and, Bool.false_and, Bool.and_true, Bool.or_true, Bool.or_false, argTm, Option.getD_some, wpcE, SeqE, BlkE, RndE, wopsE, RetE, RetXE, RetRE, resR, stp, bin, binI, numK, dstOf, St.ev, St.put, gtm, geth, seth, setAll, setRow, srcW, bndW, bldW, rowsW, setC, rdR, rdL, remh, Nat.beq, cond_true, cond_false, ofVal, resW, absC, pkR, selH, List.headD, true_and, and_true, List.toArray, AV.cells?, AV.nb, List.map_cons, List.map_nil, List.length_cons, List.length_nil, List.getD_cons_zero, List.getD_cons_succ, Nat.zero_add, Nat.reduceAdd, Nat.reduceLT, Nat.reduceLeDiff, List.drop, List.take, puL, AV.pu, Bool.and_self, packT, Nat.lt_add_one, Nat.le_refl, Bool.not_true, Bool.not_false, List.set, List.all, AV.one, List.cons_append, List.nil_append, Bool.true_or, Bool.false_or, npL, AV.np, sub, subL, List.length_map, Bool.or_self, Nat.add_zero, Int.toNat_natCast, Int.reduceToNat, List.replicate_zero, Int.toNat_zero]; (try unfold lim); repeat first | ((with_reducible refine And.intro ?_ ?_); (first | omega | exact ⟨by omega, by omega⟩ | rfl)) | intro _
    refine wpc_loop {k : Nat // k ≤ 14 ∧ codF (x :: r) (14 - k) (k + 1) = codF (x :: r) 14 1} (fun k => ⟨[(0, .str s), (2, .cp 0 0 0), (3, .ff), (4, .os 1), (5, .int .i64 (k.1 + 1))], [(1, ⟨1, strE x :: r.map strE, [.str ⟨#[]⟩], false⟩), (0, ⟨4, [[.int .i64 0, .int .i64 0, .int .i64 0, .int .i64 0]], [], true⟩)], 2⟩) (fun k => 14 - k.1) ⟨0, by omega, rfl⟩ (Le.of [] (Nat.zero_le _) ?_ ?_ ?_) ?_
    · simp only [leT, Nat.le_refl, List.map_nil, eq_self, and_self,  leH, leO, leR, leN, lkR, ren, renL, nbl, nblL, gtm, geth, remh, sub, subL, Nat.beq, cond_true, cond_false, true_and, and_true, Nat.reduceLT, Nat.lt_add_one, Nat.zero_lt_one, Nat.zero_le, Nat.zero_add]
    · simp only [leT, Nat.le_refl, List.map_nil, eq_self, and_self,  leH, leO, leR, leN, lkR, ren, renL, nbl, nblL, gtm, geth, remh, sub, subL, Nat.beq, cond_true, cond_false, true_and, and_true, Nat.reduceLT, Nat.lt_add_one, Nat.zero_lt_one, Nat.zero_le, Nat.zero_add]; rfl
    · simp only [leT, Nat.le_refl, List.map_nil, eq_self, and_self,  leH, leO, leR, leN, lkR, ren, renL, nbl, nblL, gtm, geth, remh, sub, subL, Nat.beq, cond_true, cond_false, true_and, and_true, Nat.reduceLT, Nat.lt_add_one, Nat.zero_lt_one, Nat.zero_le, Nat.zero_add]
    · rintro ⟨k, hk, hinv⟩
      have hk1 : ((k : Int) + 1).toNat = k + 1 := by omega
      by_cases hk14 : k < 14
      · have hle : decide ((k : Int) + 1 ≤ 14) = true := decide_eq_true (by omega)
        have hpos : decide (0 < ((r.length + 1 : Nat) : Int)) = true := decide_eq_true (by omega)
        simp only [hT, hle, hpos, List.length_cons, ↓If_lit, List.append_eq, bytB, boo, eqK, isC, convK, fitsK, List.length_append, inst, instV, instC, instT, Bool.and_false, Bool.true_and, Bool.false_and, Bool.and_true, Bool.or_true, Bool.or_false, argTm, Option.getD_some, wpcE, SeqE, BlkE, RndE, wopsE, RetE, RetXE, RetRE, resR, stp, bin, binI, numK, dstOf, St.ev, St.put, gtm, geth, seth, setAll, setRow, srcW, bndW, bldW, rowsW, setC, rdR, rdL, remh, Nat.beq, cond_true, cond_false, ofVal, resW, absC, pkR, selH, List.headD, true_and, and_true, List.toArray, AV.cells?, AV.nb, List.map_cons, List.map_nil, List.length_cons, List.length_nil, List.getD_cons_zero, List.getD_cons_succ, Nat.zero_add, Nat.reduceAdd, Nat.reduceLT, Nat.reduceLeDiff, List.drop, List.take, puL, AV.pu, Bool.and_self, packT, Nat.lt_add_one, Nat.le_refl, Bool.not_true, Bool.not_false, List.set, List.all, AV.one, List.cons_append, List.nil_append, Bool.true_or, Bool.false_or, npL, AV.np, sub, subL, List.length_map, Bool.or_self, Nat.add_zero, Int.toNat_natCast, Int.reduceToNat, List.replicate_zero, Int.toNat_zero]
        (try unfold lim); repeat first | ((with_reducible refine And.intro ?_ ?_); (first | omega | exact ⟨by omega, by omega⟩ | rfl)) | intro _
        have hop : opOk ((k : Int) + 1) = true := by
          unfold opOk
          simp only [Bool.and_eq_true, decide_eq_true_eq]
          omega
        refine wpc_read [0, 1, 2, 3, 4, 5] hm (by kernel_rfl) ?_
        simp only [hT, strE, wtrE, wthE, hstE, pstE, Pk, eq_self, gOp, ↓If_lit, lenP, List.getElem?_cons_zero, List.getElem?_cons_succ, Nat.reduceSub, reduceCtorEq, List.append_eq, bytB, boo, eqK, isC, convK, fitsK, List.length_append, inst, instV, instC, instT, Bool.and_false, Bool.true_and, Bool.false_and, Bool.and_true, Bool.or_true, Bool.or_false, argTm, Option.getD_some, wpcE, SeqE, BlkE, RndE, wopsE, RetE, RetXE, RetRE, resR, stp, bin, binI, numK, dstOf, St.ev, St.put, gtm, geth, seth, setAll, setRow, srcW, bndW, bldW, rowsW, setC, rdR, rdL, remh, Nat.beq, cond_true, cond_false, ofVal, resW, absC, pkR, selH, List.headD, true_and, and_true, List.toArray, AV.cells?, AV.nb, List.map_cons, List.map_nil, List.length_cons, List.length_nil, List.getD_cons_zero, List.getD_cons_succ, Nat.zero_add, Nat.reduceAdd, Nat.reduceLT, Nat.reduceLeDiff, List.drop, List.take, puL, AV.pu, Bool.and_self, packT, Nat.lt_add_one, Nat.le_refl, Bool.not_true, Bool.not_false, List.set, List.all, AV.one, List.cons_append, List.nil_append, Bool.true_or, Bool.false_or, npL, AV.np, sub, subL, List.length_map, Bool.or_self, Nat.add_zero, Int.toNat_natCast, Int.reduceToNat, List.replicate_zero, Int.toNat_zero]
        refine Fun.pcall (nn _ hop) (by exact rfl) rfl rfl rfl rfl ?_; simp only [hT, nneg, decide_true, decide_false, ↓If_lit, Int.cast_ofNat_Int, Int.reduceLT, Int.reduceLE, strE, hk1, str_eq, wtrE, wthE, hstE, pstE, Pk, eq_self, gOp, ↓If_lit, lenP, List.getElem?_cons_zero, List.getElem?_cons_succ, Nat.reduceSub, reduceCtorEq, List.append_eq, bytB, boo, eqK, isC, convK, fitsK, List.length_append, inst, instV, instC, instT, Bool.and_false, Bool.true_and, Bool.false_and, Bool.and_true, Bool.or_true, Bool.or_false, argTm, Option.getD_some, wpcE, SeqE, BlkE, RndE, wopsE, RetE, RetXE, RetRE, resR, stp, bin, binI, numK, dstOf, St.ev, St.put, gtm, geth, seth, setAll, setRow, srcW, bndW, bldW, rowsW, setC, rdR, rdL, remh, Nat.beq, cond_true, cond_false, ofVal, resW, absC, pkR, selH, List.headD, true_and, and_true, List.toArray, AV.cells?, AV.nb, List.map_cons, List.map_nil, List.length_cons, List.length_nil, List.getD_cons_zero, List.getD_cons_succ, Nat.zero_add, Nat.reduceAdd, Nat.reduceLT, Nat.reduceLeDiff, List.drop, List.take, puL, AV.pu, Bool.and_self, packT, Nat.lt_add_one, Nat.le_refl, Bool.not_true, Bool.not_false, List.set, List.all, AV.one, List.cons_append, List.nil_append, Bool.true_or, Bool.false_or, npL, AV.np, sub, subL, List.length_map, Bool.or_self, Nat.add_zero, Int.toNat_natCast, Int.reduceToNat, List.replicate_zero, Int.toNat_zero]; (try unfold lim); repeat first | ((with_reducible refine And.intro ?_ ?_); (first | omega | exact ⟨by omega, by omega⟩ | rfl)) | intro _
        refine ⟨fun q1 => ?_, fun q1 => ?_⟩
        · have q1 : wd (k + 1) = x := by simpa using q1
          (try unfold lim); repeat first | ((with_reducible refine And.intro ?_ ?_); (first | omega | exact ⟨by omega, by omega⟩ | rfl)) | intro _
          refine Fun.lent (at' (x :: r) 1) (by simp only [Int.cast_ofNat_Int, List.map_cons, List.map_nil, pur, geth, Nat.beq, cond_true, cond_false, rdR_byt, rdL, AV.rd, AV.nbV, AV.nb, hrd]; first | done | rfl) (by first | rfl | simp only [Int.cast_ofNat_Int, List.map_cons, List.map_nil, pur, geth, Nat.beq, cond_true, cond_false, rdR_byt, rdL, AV.rd, AV.nbV, AV.nb, npL, AV.np, Bool.and_self]) rfl rfl rfl ?_
          simp only [hT, nneg, beq_self_eq_true, decide_true, decide_false, ↓If_lit, Int.cast_ofNat_Int, Int.reduceLT, Int.reduceLE, List.append_eq, bytB, boo, eqK, isC, convK, fitsK, List.length_append, inst, instV, instC, instT, Bool.and_false, Bool.true_and, Bool.false_and, Bool.and_true, Bool.or_true, Bool.or_false, argTm, Option.getD_some, wpcE, SeqE, BlkE, RndE, wopsE, RetE, RetXE, RetRE, resR, stp, bin, binI, numK, dstOf, St.ev, St.put, gtm, geth, seth, setAll, setRow, srcW, bndW, bldW, rowsW, setC, rdR, rdL, remh, Nat.beq, cond_true, cond_false, ofVal, resW, absC, pkR, selH, List.headD, true_and, and_true, List.toArray, AV.cells?, AV.nb, List.map_cons, List.map_nil, List.length_cons, List.length_nil, List.getD_cons_zero, List.getD_cons_succ, Nat.zero_add, Nat.reduceAdd, Nat.reduceLT, Nat.reduceLeDiff, List.drop, List.take, puL, AV.pu, Bool.and_self, packT, Nat.lt_add_one, Nat.le_refl, Bool.not_true, Bool.not_false, List.set, List.all, AV.one, List.cons_append, List.nil_append, Bool.true_or, Bool.false_or, npL, AV.np, sub, subL, List.length_map, Bool.or_self, Nat.add_zero, Int.toNat_natCast, Int.reduceToNat, List.replicate_zero, Int.toNat_zero]; (try unfold lim); repeat first | ((with_reducible refine And.intro ?_ ?_); (first | omega | exact ⟨by omega, by omega⟩ | rfl)) | intro _
          refine Fun.lent (at' (x :: r) 2) (by simp only [Int.cast_ofNat_Int, List.map_cons, List.map_nil, pur, geth, Nat.beq, cond_true, cond_false, rdR_byt, rdL, AV.rd, AV.nbV, AV.nb, hrd]; first | done | rfl) (by first | rfl | simp only [Int.cast_ofNat_Int, List.map_cons, List.map_nil, pur, geth, Nat.beq, cond_true, cond_false, rdR_byt, rdL, AV.rd, AV.nbV, AV.nb, npL, AV.np, Bool.and_self]) rfl rfl rfl ?_
          simp only [hT, nneg, beq_self_eq_true, decide_true, decide_false, ↓If_lit, Int.cast_ofNat_Int, Int.reduceLT, Int.reduceLE, List.append_eq, bytB, boo, eqK, isC, convK, fitsK, List.length_append, inst, instV, instC, instT, Bool.and_false, Bool.true_and, Bool.false_and, Bool.and_true, Bool.or_true, Bool.or_false, argTm, Option.getD_some, wpcE, SeqE, BlkE, RndE, wopsE, RetE, RetXE, RetRE, resR, stp, bin, binI, numK, dstOf, St.ev, St.put, gtm, geth, seth, setAll, setRow, srcW, bndW, bldW, rowsW, setC, rdR, rdL, remh, Nat.beq, cond_true, cond_false, ofVal, resW, absC, pkR, selH, List.headD, true_and, and_true, List.toArray, AV.cells?, AV.nb, List.map_cons, List.map_nil, List.length_cons, List.length_nil, List.getD_cons_zero, List.getD_cons_succ, Nat.zero_add, Nat.reduceAdd, Nat.reduceLT, Nat.reduceLeDiff, List.drop, List.take, puL, AV.pu, Bool.and_self, packT, Nat.lt_add_one, Nat.le_refl, Bool.not_true, Bool.not_false, List.set, List.all, AV.one, List.cons_append, List.nil_append, Bool.true_or, Bool.false_or, npL, AV.np, sub, subL, List.length_map, Bool.or_self, Nat.add_zero, Int.toNat_natCast, Int.reduceToNat, List.replicate_zero, Int.toNat_zero]; (try unfold lim); repeat first | ((with_reducible refine And.intro ?_ ?_); (first | omega | exact ⟨by omega, by omega⟩ | rfl)) | intro _
          refine Fun.lent (at' (x :: r) 3) (by simp only [Int.cast_ofNat_Int, List.map_cons, List.map_nil, pur, geth, Nat.beq, cond_true, cond_false, rdR_byt, rdL, AV.rd, AV.nbV, AV.nb, hrd]; first | done | rfl) (by first | rfl | simp only [Int.cast_ofNat_Int, List.map_cons, List.map_nil, pur, geth, Nat.beq, cond_true, cond_false, rdR_byt, rdL, AV.rd, AV.nbV, AV.nb, npL, AV.np, Bool.and_self]) rfl rfl rfl ?_
          simp only [hT, nneg, beq_self_eq_true, decide_true, decide_false, ↓If_lit, Int.cast_ofNat_Int, Int.reduceLT, Int.reduceLE, List.append_eq, bytB, boo, eqK, isC, convK, fitsK, List.length_append, inst, instV, instC, instT, Bool.and_false, Bool.true_and, Bool.false_and, Bool.and_true, Bool.or_true, Bool.or_false, argTm, Option.getD_some, wpcE, SeqE, BlkE, RndE, wopsE, RetE, RetXE, RetRE, resR, stp, bin, binI, numK, dstOf, St.ev, St.put, gtm, geth, seth, setAll, setRow, srcW, bndW, bldW, rowsW, setC, rdR, rdL, remh, Nat.beq, cond_true, cond_false, ofVal, resW, absC, pkR, selH, List.headD, true_and, and_true, List.toArray, AV.cells?, AV.nb, List.map_cons, List.map_nil, List.length_cons, List.length_nil, List.getD_cons_zero, List.getD_cons_succ, Nat.zero_add, Nat.reduceAdd, Nat.reduceLT, Nat.reduceLeDiff, List.drop, List.take, puL, AV.pu, Bool.and_self, packT, Nat.lt_add_one, Nat.le_refl, Bool.not_true, Bool.not_false, List.set, List.all, AV.one, List.cons_append, List.nil_append, Bool.true_or, Bool.false_or, npL, AV.np, sub, subL, List.length_map, Bool.or_self, Nat.add_zero, Int.toNat_natCast, Int.reduceToNat, List.replicate_zero, Int.toNat_zero]; (try unfold lim); repeat first | ((with_reducible refine And.intro ?_ ?_); (first | omega | exact ⟨by omega, by omega⟩ | rfl)) | intro _
          refine Fun.plain (ok (mkS (k + 1) (x :: r))) rfl rfl rfl rfl ?_; simp only [hT, nneg, beq_self_eq_true, decide_true, decide_false, ↓If_lit, Int.cast_ofNat_Int, Int.reduceLT, Int.reduceLE, List.append_eq, bytB, boo, eqK, isC, convK, fitsK, List.length_append, inst, instV, instC, instT, Bool.and_false, Bool.true_and, Bool.false_and, Bool.and_true, Bool.or_true, Bool.or_false, argTm, Option.getD_some, wpcE, SeqE, BlkE, RndE, wopsE, RetE, RetXE, RetRE, resR, stp, bin, binI, numK, dstOf, St.ev, St.put, gtm, geth, seth, setAll, setRow, srcW, bndW, bldW, rowsW, setC, rdR, rdL, remh, Nat.beq, cond_true, cond_false, ofVal, resW, absC, pkR, selH, List.headD, true_and, and_true, List.toArray, AV.cells?, AV.nb, List.map_cons, List.map_nil, List.length_cons, List.length_nil, List.getD_cons_zero, List.getD_cons_succ, Nat.zero_add, Nat.reduceAdd, Nat.reduceLT, Nat.reduceLeDiff, List.drop, List.take, puL, AV.pu, Bool.and_self, packT, Nat.lt_add_one, Nat.le_refl, Bool.not_true, Bool.not_false, List.set, List.all, AV.one, List.cons_append, List.nil_append, Bool.true_or, Bool.false_or, npL, AV.np, sub, subL, List.length_map, Bool.or_self, Nat.add_zero, Int.toNat_natCast, Int.reduceToNat, List.replicate_zero, Int.toNat_zero]; (try unfold lim); repeat first | ((with_reducible refine And.intro ?_ ?_); (first | omega | exact ⟨by omega, by omega⟩ | rfl)) | intro _
          have hse : (⟨s.data.toList.toArray⟩ : ByteArray) = s := rfl
          have hh : decide (wd (k + 1) = (x :: r).headD []) = true := by rw [q1]; exact decide_eq_true rfl
          refine ⟨fun q2 => ?_, fun q2 => ?_⟩
          · refine Fun.plain (cl (mkS (k + 1) (x :: r))) rfl rfl rfl rfl ?_; simp only [hT, nneg, beq_self_eq_true, decide_true, decide_false, ↓If_lit, Int.cast_ofNat_Int, Int.reduceLT, Int.reduceLE, List.append_eq, bytB, boo, eqK, isC, convK, fitsK, List.length_append, inst, instV, instC, instT, Bool.and_false, Bool.true_and, Bool.false_and, Bool.and_true, Bool.or_true, Bool.or_false, argTm, Option.getD_some, wpcE, SeqE, BlkE, RndE, wopsE, RetE, RetXE, RetRE, resR, stp, bin, binI, numK, dstOf, St.ev, St.put, gtm, geth, seth, setAll, setRow, srcW, bndW, bldW, rowsW, setC, rdR, rdL, remh, Nat.beq, cond_true, cond_false, ofVal, resW, absC, pkR, selH, List.headD, true_and, and_true, List.toArray, AV.cells?, AV.nb, List.map_cons, List.map_nil, List.length_cons, List.length_nil, List.getD_cons_zero, List.getD_cons_succ, Nat.zero_add, Nat.reduceAdd, Nat.reduceLT, Nat.reduceLeDiff, List.drop, List.take, puL, AV.pu, Bool.and_self, packT, Nat.lt_add_one, Nat.le_refl, Bool.not_true, Bool.not_false, List.set, List.all, AV.one, List.cons_append, List.nil_append, Bool.true_or, Bool.false_or, npL, AV.np, sub, subL, List.length_map, Bool.or_self, Nat.add_zero, Int.toNat_natCast, Int.reduceToNat, List.replicate_zero, Int.toNat_zero]; (try unfold lim); repeat first | ((with_reducible refine And.intro ?_ ?_); (first | omega | exact ⟨by omega, by omega⟩ | rfl)) | intro _
            refine ⟨fun q3 => ?_, fun q3 => ?_⟩
            · have ht : trI (k + 1) (x :: r) = some (mkS (k + 1) (x :: r)) := by rw [← e0]; unfold trS; rw [hh, q2, hse, q3]; rfl
              rw [← hinv, codF_hit hk14 ht]
              simp only [readT, ordE, mkS, Option.getD_some, Option.isSome_some, List.append_eq, bytB, boo, eqK, isC, convK, fitsK, List.length_append, inst, instV, instC, instT, Bool.and_false, Bool.true_and, Bool.false_and, Bool.and_true, Bool.or_true, Bool.or_false, argTm, Option.getD_some, wpcE, SeqE, BlkE, RndE, wopsE, RetE, RetXE, RetRE, resR, stp, bin, binI, numK, dstOf, St.ev, St.put, gtm, geth, seth, setAll, setRow, srcW, bndW, bldW, rowsW, setC, rdR, rdL, remh, Nat.beq, cond_true, cond_false, ofVal, resW, absC, pkR, selH, List.headD, true_and, and_true, List.toArray, AV.cells?, AV.nb, List.map_cons, List.map_nil, List.length_cons, List.length_nil, List.getD_cons_zero, List.getD_cons_succ, Nat.zero_add, Nat.reduceAdd, Nat.reduceLT, Nat.reduceLeDiff, List.drop, List.take, puL, AV.pu, Bool.and_self, packT, Nat.lt_add_one, Nat.le_refl, Bool.not_true, Bool.not_false, List.set, List.all, AV.one, List.cons_append, List.nil_append, Bool.true_or, Bool.false_or, npL, AV.np, sub, subL, List.length_map, Bool.or_self, Nat.add_zero, Int.toNat_natCast, Int.reduceToNat, List.replicate_zero, Int.toNat_zero]
              rfl
            · have ht : trI (k + 1) (x :: r) = none := by rw [← e0]; unfold trS; rw [hh, q2, hse, q3]; rfl
              refine ⟨⟨by omega, by omega⟩, ⟨k + 1, by omega, by rw [← hinv, codF_step hk14 ht]⟩, by simp only; omega, Le.of [] (Nat.zero_le _) ?_ ?_ ?_⟩ <;> simp only [strE, leT, Nat.le_refl, List.map_nil, eq_self, and_self,  leH, leO, leR, leN, lkR, ren, renL, nbl, nblL, gtm, geth, remh, sub, subL, Nat.beq, cond_true, cond_false, true_and, and_true, Nat.reduceLT, Nat.lt_add_one, Nat.zero_lt_one, Nat.zero_le, Nat.zero_add]
              rfl
          · have ht : trI (k + 1) (x :: r) = none := by rw [← e0]; unfold trS; rw [hh, q2]; rfl
            refine ⟨⟨by omega, by omega⟩, ⟨k + 1, by omega, by rw [← hinv, codF_step hk14 ht]⟩, by simp only; omega, Le.of [] (Nat.zero_le _) ?_ ?_ ?_⟩ <;> simp only [strE, leT, Nat.le_refl, List.map_nil, eq_self, and_self,  leH, leO, leR, leN, lkR, ren, renL, nbl, nblL, gtm, geth, remh, sub, subL, Nat.beq, cond_true, cond_false, true_and, and_true, Nat.reduceLT, Nat.lt_add_one, Nat.zero_lt_one, Nat.zero_le, Nat.zero_add]
            rfl
        · have q1 : ¬wd (k + 1) = x := by simpa using q1
          have ht : trI (k + 1) (x :: r) = none := by unfold trI mt; simp [q1]
          refine ⟨⟨by omega, by omega⟩, ⟨k + 1, by omega, by rw [← hinv, codF_step hk14 ht]⟩, by simp only; omega, Le.of [] (Nat.zero_le _) ?_ ?_ ?_⟩ <;> simp only [strE, leT, Nat.le_refl, List.map_nil, eq_self, and_self,  leH, leO, leR, leN, lkR, ren, renL, nbl, nblL, gtm, geth, remh, sub, subL, Nat.beq, cond_true, cond_false, true_and, and_true, Nat.reduceLT, Nat.lt_add_one, Nat.zero_lt_one, Nat.zero_le, Nat.zero_add]
          rfl
      · obtain rfl : k = 14 := by omega
        have hle : decide (((14 : Nat) : Int) + 1 ≤ 14) = false := by decide
        have hinv2 : codF (x :: r) 14 1 = none := hinv.symm
        simp only [hT, hle, ↓If_lit, List.append_eq, bytB, boo, eqK, isC, convK, fitsK, List.length_append, inst, instV, instC, instT, Bool.and_false, Bool.true_and, Bool.false_and, Bool.and_true, Bool.or_true, Bool.or_false, argTm, Option.getD_some, wpcE, SeqE, BlkE, RndE, wopsE, RetE, RetXE, RetRE, resR, stp, bin, binI, numK, dstOf, St.ev, St.put, gtm, geth, seth, setAll, setRow, srcW, bndW, bldW, rowsW, setC, rdR, rdL, remh, Nat.beq, cond_true, cond_false, ofVal, resW, absC, pkR, selH, List.headD, true_and, and_true, List.toArray, AV.cells?, AV.nb, List.map_cons, List.map_nil, List.length_cons, List.length_nil, List.getD_cons_zero, List.getD_cons_succ, Nat.zero_add, Nat.reduceAdd, Nat.reduceLT, Nat.reduceLeDiff, List.drop, List.take, puL, AV.pu, Bool.and_self, packT, Nat.lt_add_one, Nat.le_refl, Bool.not_true, Bool.not_false, List.set, List.all, AV.one, List.cons_append, List.nil_append, Bool.true_or, Bool.false_or, npL, AV.np, sub, subL, List.length_map, Bool.or_self, Nat.add_zero, Int.toNat_natCast, Int.reduceToNat, List.replicate_zero, Int.toNat_zero]
        rw [hinv2]
        exact none_sub
theorem TY_eqOrd {P : Program} (hP : P = Tryd.prog) : ((fldT P 53 0 = some ((0, (false, 1)))) ∧ (tyT P 3 = some ((false, 1)))) ∧ ((fldT P 53 1 = some ((1, (false, 1)))) ∧ ((fldT P 53 2 = some ((2, (false, 1)))) ∧ (fldT P 53 3 = some ((3, (false, 1)))))) := by subst hP; refine ⟨⟨?_, ?_⟩, ⟨?_, ⟨?_, ?_⟩⟩⟩ <;> kernel_rfl
theorem eqOrd {P : Program} [Known P] (hP : P = Tryd.prog) (o : VOrd) : Fun P 41 [.agg (ordE o), .agg (ordE o)] (.bool true) := by
  refine fun_of (fn := Tryd.f41) (hP ▸ Tryd.func41) (by kernel_rfl) (by kernel_rfl) (by kernel_rfl) (by kernel_rfl) ?_
  have hT := TY_eqOrd hP
  clear hP
  intro hl
  clear hl
  simp only [ordE, Tryd.f41, hT, decide_true, ↓If_lit, List.append_eq, bytB, boo, eqK, isC, convK, fitsK, List.length_append, inst, instV, instC, instT, Bool.and_false, Bool.true_and, Bool.false_and, Bool.and_true, Bool.or_true, Bool.or_false, argTm, Option.getD_some, wpcE, SeqE, BlkE, RndE, wopsE, RetE, RetXE, RetRE, resR, stp, bin, binI, numK, dstOf, St.ev, St.put, gtm, geth, seth, setAll, setRow, srcW, bndW, bldW, rowsW, setC, rdR, rdL, remh, Nat.beq, cond_true, cond_false, ofVal, resW, absC, pkR, selH, List.headD, true_and, and_true, List.toArray, AV.cells?, AV.nb, List.map_cons, List.map_nil, List.length_cons, List.length_nil, List.getD_cons_zero, List.getD_cons_succ, Nat.zero_add, Nat.reduceAdd, Nat.reduceLT, Nat.reduceLeDiff, List.drop, List.take, puL, AV.pu, Bool.and_self, packT, Nat.lt_add_one, Nat.le_refl, Bool.not_true, Bool.not_false, List.set, List.all, AV.one, List.cons_append, List.nil_append, Bool.true_or, Bool.false_or, npL, AV.np, sub, subL, List.length_map, Bool.or_self, Nat.add_zero, Int.toNat_natCast, Int.reduceToNat, List.replicate_zero, Int.toNat_zero]
theorem TY_lawRead {P : Program} (hP : P = Tryd.prog) : ((lkT P 9 = 2) ∧ (zeroT P 53 = some (((.int .i64 0) :: ((.int .i64 0) :: ((.int .i64 0) :: ((.int .i64 0) :: []))))))) ∧ ((tyT P 53 = some ((true, 4))) ∧ (bolT P 4 = true)) := by subst hP; refine ⟨⟨?_, ?_⟩, ⟨?_, ?_⟩⟩ <;> kernel_rfl
theorem lawRead {P : Program} [Known P] (hP : P = Tryd.prog) (s : ByteArray) : Fun P 10 [.str s] (.bool true) := by
  refine fun_of (fn := Tryd.f10) (hP ▸ Tryd.func10) (by kernel_rfl) (by kernel_rfl) (by kernel_rfl) (by kernel_rfl) ?_
  have hT := TY_lawRead hP
  have rs := readCS hP s
  have ri := fun h => readCI hP s h
  have eq := fun o => eqOrd hP o
  clear hP
  intro hl
  simp only [limL, limA, and_true] at hl
  unfold readT at rs ri
  generalize codR s.data.toList = R at *
  generalize (R.getD o0) = o at *
  simp only [Tryd.f10, hT, List.append_eq, bytB, boo, eqK, isC, convK, fitsK, List.length_append, inst, instV, instC, instT, Bool.and_false, Bool.true_and, Bool.false_and, Bool.and_true, Bool.or_true, Bool.or_false, argTm, Option.getD_some, wpcE, SeqE, BlkE, RndE, wopsE, RetE, RetXE, RetRE, resR, stp, bin, binI, numK, dstOf, St.ev, St.put, gtm, geth, seth, setAll, setRow, srcW, bndW, bldW, rowsW, setC, rdR, rdL, remh, Nat.beq, cond_true, cond_false, ofVal, resW, absC, pkR, selH, List.headD, true_and, and_true, List.toArray, AV.cells?, AV.nb, List.map_cons, List.map_nil, List.length_cons, List.length_nil, List.getD_cons_zero, List.getD_cons_succ, Nat.zero_add, Nat.reduceAdd, Nat.reduceLT, Nat.reduceLeDiff, List.drop, List.take, puL, AV.pu, Bool.and_self, packT, Nat.lt_add_one, Nat.le_refl, Bool.not_true, Bool.not_false, List.set, List.all, AV.one, List.cons_append, List.nil_append, Bool.true_or, Bool.false_or, npL, AV.np, sub, subL, List.length_map, Bool.or_self, Nat.add_zero, Int.toNat_natCast, Int.reduceToNat, List.replicate_zero, Int.toNat_zero]
  (try unfold lim); repeat first | ((with_reducible refine And.intro ?_ ?_); (first | omega | exact ⟨by omega, by omega⟩ | rfl)) | intro _
  refine If.mk (fun q => by first | rfl | trivial) (fun q => ?_)
  have ri := ri (by simp at q; omega)
  obtain ⟨n, a, b, c, u⟩ := o
  simp only [ordE] at rs ri eq
  refine Fun.plain (rs) rfl rfl rfl rfl ?_; simp only [hT, nneg, beq_self_eq_true, decide_true, decide_false, ↓If_lit, Int.cast_ofNat_Int, Int.reduceLT, Int.reduceLE, List.append_eq, bytB, boo, eqK, isC, convK, fitsK, List.length_append, inst, instV, instC, instT, Bool.and_false, Bool.true_and, Bool.false_and, Bool.and_true, Bool.or_true, Bool.or_false, argTm, Option.getD_some, wpcE, SeqE, BlkE, RndE, wopsE, RetE, RetXE, RetRE, resR, stp, bin, binI, numK, dstOf, St.ev, St.put, gtm, geth, seth, setAll, setRow, srcW, bndW, bldW, rowsW, setC, rdR, rdL, remh, Nat.beq, cond_true, cond_false, ofVal, resW, absC, pkR, selH, List.headD, true_and, and_true, List.toArray, AV.cells?, AV.nb, List.map_cons, List.map_nil, List.length_cons, List.length_nil, List.getD_cons_zero, List.getD_cons_succ, Nat.zero_add, Nat.reduceAdd, Nat.reduceLT, Nat.reduceLeDiff, List.drop, List.take, puL, AV.pu, Bool.and_self, packT, Nat.lt_add_one, Nat.le_refl, Bool.not_true, Bool.not_false, List.set, List.all, AV.one, List.cons_append, List.nil_append, Bool.true_or, Bool.false_or, npL, AV.np, sub, subL, List.length_map, Bool.or_self, Nat.add_zero, Int.toNat_natCast, Int.reduceToNat, List.replicate_zero, Int.toNat_zero]; (try unfold lim); repeat first | ((with_reducible refine And.intro ?_ ?_); (first | omega | exact ⟨by omega, by omega⟩ | rfl)) | intro _
  refine Fun.plain (ri) rfl rfl rfl rfl ?_; simp only [hT, nneg, beq_self_eq_true, decide_true, decide_false, ↓If_lit, Int.cast_ofNat_Int, Int.reduceLT, Int.reduceLE, List.append_eq, bytB, boo, eqK, isC, convK, fitsK, List.length_append, inst, instV, instC, instT, Bool.and_false, Bool.true_and, Bool.false_and, Bool.and_true, Bool.or_true, Bool.or_false, argTm, Option.getD_some, wpcE, SeqE, BlkE, RndE, wopsE, RetE, RetXE, RetRE, resR, stp, bin, binI, numK, dstOf, St.ev, St.put, gtm, geth, seth, setAll, setRow, srcW, bndW, bldW, rowsW, setC, rdR, rdL, remh, Nat.beq, cond_true, cond_false, ofVal, resW, absC, pkR, selH, List.headD, true_and, and_true, List.toArray, AV.cells?, AV.nb, List.map_cons, List.map_nil, List.length_cons, List.length_nil, List.getD_cons_zero, List.getD_cons_succ, Nat.zero_add, Nat.reduceAdd, Nat.reduceLT, Nat.reduceLeDiff, List.drop, List.take, puL, AV.pu, Bool.and_self, packT, Nat.lt_add_one, Nat.le_refl, Bool.not_true, Bool.not_false, List.set, List.all, AV.one, List.cons_append, List.nil_append, Bool.true_or, Bool.false_or, npL, AV.np, sub, subL, List.length_map, Bool.or_self, Nat.add_zero, Int.toNat_natCast, Int.reduceToNat, List.replicate_zero, Int.toNat_zero]; (try unfold lim); repeat first | ((with_reducible refine And.intro ?_ ?_); (first | omega | exact ⟨by omega, by omega⟩ | rfl)) | intro _
  refine Fun.plain (eq (n, a, b, c, u)) rfl rfl rfl rfl ?_; simp only [hT, nneg, beq_self_eq_true, decide_true, decide_false, ↓If_lit, Int.cast_ofNat_Int, Int.reduceLT, Int.reduceLE, List.append_eq, bytB, boo, eqK, isC, convK, fitsK, List.length_append, inst, instV, instC, instT, Bool.and_false, Bool.true_and, Bool.false_and, Bool.and_true, Bool.or_true, Bool.or_false, argTm, Option.getD_some, wpcE, SeqE, BlkE, RndE, wopsE, RetE, RetXE, RetRE, resR, stp, bin, binI, numK, dstOf, St.ev, St.put, gtm, geth, seth, setAll, setRow, srcW, bndW, bldW, rowsW, setC, rdR, rdL, remh, Nat.beq, cond_true, cond_false, ofVal, resW, absC, pkR, selH, List.headD, true_and, and_true, List.toArray, AV.cells?, AV.nb, List.map_cons, List.map_nil, List.length_cons, List.length_nil, List.getD_cons_zero, List.getD_cons_succ, Nat.zero_add, Nat.reduceAdd, Nat.reduceLT, Nat.reduceLeDiff, List.drop, List.take, puL, AV.pu, Bool.and_self, packT, Nat.lt_add_one, Nat.le_refl, Bool.not_true, Bool.not_false, List.set, List.all, AV.one, List.cons_append, List.nil_append, Bool.true_or, Bool.false_or, npL, AV.np, sub, subL, List.length_map, Bool.or_self, Nat.add_zero, Int.toNat_natCast, Int.reduceToNat, List.replicate_zero, Int.toNat_zero]; (try unfold lim); repeat first | ((with_reducible refine And.intro ?_ ?_); (first | omega | exact ⟨by omega, by omega⟩ | rfl)) | intro _
end Go.Proofs.YtiaokhgfolbhnaaDoor.C
