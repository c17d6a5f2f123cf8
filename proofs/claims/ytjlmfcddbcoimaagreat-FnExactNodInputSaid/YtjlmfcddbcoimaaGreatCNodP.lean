/- Marks in a plan of one's own: how many there are. -/
import Derived.Test.YtjlmfcddbcoimaaGreatCNodM
import Derived.Test.YtjlmfcddbcoimaaGreatCPlnC
set_option maxRecDepth 100000
set_option maxHeartbeats 4000000
set_option linter.unusedSimpArgs false
set_option linter.unusedVariables false
namespace Go.Proofs.YtjlmfcddbcoimaaGreat.C
open Go Go.Av Go.Proofs
open Nat (reduceAdd reduceLT reduceLeDiff reduceSub)
open Int (reduceToNat)
/-- Rows done and values to come. -/
structure Zp (α : Type) (n : Nat) where
  a : List (List AV)
  b : List α
  h : a.length + b.length = n
/-- The same, with the marks so far. -/
structure Zq {α : Type} (c : α → Nat) (n t : Nat) where
  a : List (List AV)
  b : List α
  m : Nat
  h : a.length + b.length = n
  q : m + sumC c b = t
  p : ∀ r ∈ a, cln r
theorem TY_markVmOrderS {P : Program} (hP : P = Tryz.prog) : ((lkT P 154 = 1) ∧ ((elT P 154 = some ((true, (4, 32)))) ∧ (fldT P 274 0 = some ((0, (false, 1)))))) ∧ (((tyT P 3 = some ((false, 1))) ∧ (fldT P 274 1 = some ((1, (false, 1))))) ∧ ((fldT P 274 2 = some ((2, (false, 1)))) ∧ (fldT P 274 3 = some ((3, (false, 1)))))) := by subst hP; refine ⟨⟨?_, ⟨?_, ?_⟩⟩, ⟨⟨?_, ?_⟩, ⟨?_, ?_⟩⟩⟩ <;> kernel_rfl
theorem markVmOrderS {P : Program} [Known P] (hP : P = Tryz.prog) (l : List VOrd) (hs : l.length ≤ 1000000000) (k : Int) (h1 : 0 ≤ k) (h2 : k ≤ 1000000000000) : FunM P 170 1 [.os 0, .int .i64 k] [(0, ⟨4, l.map ordE, oZ, false⟩)] (.int .i64 (k + 4 * l.length)) [] := by
  refine fun_ofM (fn := Tryz.f170) (hP ▸ Tryz.func170) (by kernel_rfl) (by kernel_rfl) (by kernel_rfl) (by kernel_rfl) ?_
  have hT := TY_markVmOrderS hP
  clear hP
  intro hl
  clear hl
  simp only [Tryz.f170, hT, eA, Nat.beq, List.toArray, reduceAdd, reduceLT, reduceLeDiff, reduceToNat]
  refine wpc_loop (Zp VOrd l.length) (fun z => ⟨[(0, .os 0), (1, .int .i64 (k + 4 * z.a.length)), (5, .int .i64 z.a.length)], [(0, ⟨4, z.a ++ z.b.map ordE, oZ, false⟩)], 1⟩) (fun z => z.b.length) ⟨[], l, by simp⟩ (Le.of [] (Nat.le_refl _) ?_ ?_ ?_) ?_
  · simp only [eL, eH, eG, leO, Nat.beq, reduceLT]
  · simp only [eL, eH, eG, leO, Nat.beq, reduceLT]; simp
  · simp only [eL, eH, eG, leO, Nat.beq, reduceLT]; rfl
  · rintro ⟨a, b, hz⟩
    cases b with
    | nil =>
      have hf : decide ((l.length : Int) < l.length) = false := decide_eq_false (by omega)
      simp only [List.length_nil, Nat.add_zero] at hz
      simp only [hT, List.map_nil, List.append_nil, hf, hz, ↓If_lit, eA, Nat.beq, List.toArray, reduceAdd, reduceLT, reduceLeDiff, reduceToNat]
      (try unfold lim); repeat first | ((with_reducible refine And.intro ?_ ?_); (first | omega | exact ⟨by omega, by omega⟩ | rfl)) | intro _
      trivial
    | cons x b =>
      simp only [List.length_cons] at hz
      have hf : decide ((a.length : Int) < (a.length + (b.length + 1) : Nat)) = true := decide_eq_true (by omega)
      simp only [hT, List.map_cons, hf, getD_mid, set_mid, List.length_append, List.length_cons, List.length_map, ordE, Int.toNat_natCast, ↓If_lit, eA, Nat.beq, List.toArray, reduceAdd, reduceLT, reduceLeDiff, reduceToNat]
      (try unfold lim); repeat first | ((with_reducible refine And.intro ?_ ?_); (first | omega | exact ⟨by omega, by omega⟩ | rfl)) | intro _
      refine ⟨⟨a ++ [[.int .i64 (k + 4 * a.length), .int .i64 (k + 4 * a.length + 1), .int .i64 (k + 4 * a.length + 1 + 1), .int .i64 (k + 4 * a.length + 1 + 1 + 1)]], b, by simp; omega⟩, Nat.lt_succ_self _, Le.of [] (Nat.le_refl _) ?_ ?_ ?_⟩
      · simp only [eL, eH, eG, leO, Nat.beq, reduceLT]
      · simp only [eL, eH, eG, leO, Nat.beq, reduceLT]; simp; omega
      · simp only [eL, eH, eG, leO, Nat.beq, reduceLT]; simp
theorem TY_markGrdRuleS {P : Program} (hP : P = Tryz.prog) : (((lkT P 158 = 1) ∧ (elT P 158 = some ((true, (7, 56))))) ∧ ((fldT P 276 0 = some ((0, (false, 1)))) ∧ ((tyT P 3 = some ((false, 1))) ∧ (fldT P 276 1 = some ((1, (false, 1))))))) ∧ (((fldT P 276 2 = some ((2, (false, 1)))) ∧ (fldT P 276 3 = some ((3, (false, 1))))) ∧ ((fldT P 276 4 = some ((4, (false, 1)))) ∧ ((fldT P 276 5 = some ((5, (false, 1)))) ∧ (fldT P 276 6 = some ((6, (false, 1))))))) := by subst hP; refine ⟨⟨⟨?_, ?_⟩, ⟨?_, ⟨?_, ?_⟩⟩⟩, ⟨⟨?_, ?_⟩, ⟨?_, ⟨?_, ?_⟩⟩⟩⟩ <;> kernel_rfl
theorem markGrdRuleS {P : Program} [Known P] (hP : P = Tryz.prog) (l : List VRule) (hs : l.length ≤ 1000000000) (k : Int) (h1 : 0 ≤ k) (h2 : k ≤ 1000000000000) : FunM P 171 1 [.os 0, .int .i64 k] [(0, ⟨7, l.map ruleE, rZ, false⟩)] (.int .i64 (k + 7 * l.length)) [] := by
  refine fun_ofM (fn := Tryz.f171) (hP ▸ Tryz.func171) (by kernel_rfl) (by kernel_rfl) (by kernel_rfl) (by kernel_rfl) ?_
  have hT := TY_markGrdRuleS hP
  clear hP
  intro hl
  clear hl
  simp only [Tryz.f171, hT, eA, Nat.beq, List.toArray, reduceAdd, reduceLT, reduceLeDiff, reduceToNat]
  refine wpc_loop (Zp VRule l.length) (fun z => ⟨[(0, .os 0), (1, .int .i64 (k + 7 * z.a.length)), (5, .int .i64 z.a.length)], [(0, ⟨7, z.a ++ z.b.map ruleE, rZ, false⟩)], 1⟩) (fun z => z.b.length) ⟨[], l, by simp⟩ (Le.of [] (Nat.le_refl _) ?_ ?_ ?_) ?_
  · simp only [eL, eH, eG, leO, Nat.beq, reduceLT]
  · simp only [eL, eH, eG, leO, Nat.beq, reduceLT]; simp
  · simp only [eL, eH, eG, leO, Nat.beq, reduceLT]; rfl
  · rintro ⟨a, b, hz⟩
    cases b with
    | nil =>
      have hf : decide ((l.length : Int) < l.length) = false := decide_eq_false (by omega)
      simp only [List.length_nil, Nat.add_zero] at hz
      simp only [hT, List.map_nil, List.append_nil, hf, hz, ↓If_lit, eA, Nat.beq, List.toArray, reduceAdd, reduceLT, reduceLeDiff, reduceToNat]
      (try unfold lim); repeat first | ((with_reducible refine And.intro ?_ ?_); (first | omega | exact ⟨by omega, by omega⟩ | rfl)) | intro _
      trivial
    | cons x b =>
      simp only [List.length_cons] at hz
      have hf : decide ((a.length : Int) < (a.length + (b.length + 1) : Nat)) = true := decide_eq_true (by omega)
      simp only [hT, List.map_cons, hf, getD_mid, set_mid, List.length_append, List.length_cons, List.length_map, ruleE, Int.toNat_natCast, ↓If_lit, eA, Nat.beq, List.toArray, reduceAdd, reduceLT, reduceLeDiff, reduceToNat]
      (try unfold lim); repeat first | ((with_reducible refine And.intro ?_ ?_); (first | omega | exact ⟨by omega, by omega⟩ | rfl)) | intro _
      refine ⟨⟨a ++ [[.int .i64 (k + 7 * a.length), .int .i64 (k + 7 * a.length + 1), .int .i64 (k + 7 * a.length + 1 + 1), .int .i64 (k + 7 * a.length + 1 + 1 + 1), .int .i64 (k + 7 * a.length + 1 + 1 + 1 + 1), .int .i64 (k + 7 * a.length + 1 + 1 + 1 + 1 + 1), .int .i64 (k + 7 * a.length + 1 + 1 + 1 + 1 + 1 + 1)]], b, by simp; omega⟩, Nat.lt_succ_self _, Le.of [] (Nat.le_refl _) ?_ ?_ ?_⟩
      · simp only [eL, eH, eG, leO, Nat.beq, reduceLT]
      · simp only [eL, eH, eG, leO, Nat.beq, reduceLT]; simp; omega
      · simp only [eL, eH, eG, leO, Nat.beq, reduceLT]; simp
theorem TY_markPlnSlotS {P : Program} (hP : P = Tryz.prog) : ((lkT P 41 = 1) ∧ (elT P 41 = some ((true, (2, 16))))) ∧ ((fldT P 208 0 = some ((0, (false, 1)))) ∧ ((tyT P 3 = some ((false, 1))) ∧ (fldT P 208 1 = some ((1, (false, 1)))))) := by subst hP; refine ⟨⟨?_, ?_⟩, ⟨?_, ⟨?_, ?_⟩⟩⟩ <;> kernel_rfl
theorem markPlnSlotS {P : Program} [Known P] (hP : P = Tryz.prog) (l : List VSlot) (hs : l.length ≤ 1000000000) (k : Int) (h1 : 0 ≤ k) (h2 : k ≤ 1000000000000) : FunM P 75 1 [.os 0, .int .i64 k] [(0, ⟨2, l.map slotE, sZ, false⟩)] (.int .i64 (k + 2 * l.length)) [] := by
  refine fun_ofM (fn := Tryz.f75) (hP ▸ Tryz.func75) (by kernel_rfl) (by kernel_rfl) (by kernel_rfl) (by kernel_rfl) ?_
  have hT := TY_markPlnSlotS hP
  clear hP
  intro hl
  clear hl
  simp only [Tryz.f75, hT, eA, Nat.beq, List.toArray, reduceAdd, reduceLT, reduceLeDiff, reduceToNat]
  refine wpc_loop (Zp VSlot l.length) (fun z => ⟨[(0, .os 0), (1, .int .i64 (k + 2 * z.a.length)), (5, .int .i64 z.a.length)], [(0, ⟨2, z.a ++ z.b.map slotE, sZ, false⟩)], 1⟩) (fun z => z.b.length) ⟨[], l, by simp⟩ (Le.of [] (Nat.le_refl _) ?_ ?_ ?_) ?_
  · simp only [eL, eH, eG, leO, Nat.beq, reduceLT]
  · simp only [eL, eH, eG, leO, Nat.beq, reduceLT]; simp
  · simp only [eL, eH, eG, leO, Nat.beq, reduceLT]; rfl
  · rintro ⟨a, b, hz⟩
    cases b with
    | nil =>
      have hf : decide ((l.length : Int) < l.length) = false := decide_eq_false (by omega)
      simp only [List.length_nil, Nat.add_zero] at hz
      simp only [hT, List.map_nil, List.append_nil, hf, hz, ↓If_lit, eA, Nat.beq, List.toArray, reduceAdd, reduceLT, reduceLeDiff, reduceToNat]
      (try unfold lim); repeat first | ((with_reducible refine And.intro ?_ ?_); (first | omega | exact ⟨by omega, by omega⟩ | rfl)) | intro _
      trivial
    | cons x b =>
      simp only [List.length_cons] at hz
      have hf : decide ((a.length : Int) < (a.length + (b.length + 1) : Nat)) = true := decide_eq_true (by omega)
      simp only [hT, List.map_cons, hf, getD_mid, set_mid, List.length_append, List.length_cons, List.length_map, slotE, Int.toNat_natCast, ↓If_lit, eA, Nat.beq, List.toArray, reduceAdd, reduceLT, reduceLeDiff, reduceToNat]
      (try unfold lim); repeat first | ((with_reducible refine And.intro ?_ ?_); (first | omega | exact ⟨by omega, by omega⟩ | rfl)) | intro _
      refine ⟨⟨a ++ [[.int .i64 (k + 2 * a.length), .int .i64 (k + 2 * a.length + 1)]], b, by simp; omega⟩, Nat.lt_succ_self _, Le.of [] (Nat.le_refl _) ?_ ?_ ?_⟩
      · simp only [eL, eH, eG, leO, Nat.beq, reduceLT]
      · simp only [eL, eH, eG, leO, Nat.beq, reduceLT]; simp; omega
      · simp only [eL, eH, eG, leO, Nat.beq, reduceLT]; simp
theorem TY_markIntC {P : Program} (hP : P = Tryz.prog) : (lkT P 33 = 1) ∧ ((elT P 33 = some ((false, (1, 8)))) ∧ (tyT P 3 = some ((false, 1)))) := by subst hP; refine ⟨?_, ⟨?_, ?_⟩⟩ <;> kernel_rfl
theorem markIntC {P : Program} [Known P] (hP : P = Tryz.prog) (l : List Int) (hs : l.length ≤ 1000000000) (k : Int) (h1 : 0 ≤ k) (h2 : k ≤ 1000000000000) : FunM P 172 1 [.os 0, .int .i64 k] [(0, ⟨1, l.map intE, iZ, false⟩)] (.int .i64 (k + 1 * l.length)) [] := by
  refine fun_ofM (fn := Tryz.f172) (hP ▸ Tryz.func172) (by kernel_rfl) (by kernel_rfl) (by kernel_rfl) (by kernel_rfl) ?_
  have hT := TY_markIntC hP
  clear hP
  intro hl
  clear hl
  simp only [Tryz.f172, hT, eA, Nat.beq, List.toArray, reduceAdd, reduceLT, reduceLeDiff, reduceToNat]
  refine wpc_loop (Zp Int l.length) (fun z => ⟨[(0, .os 0), (1, .int .i64 (k + 1 * z.a.length)), (5, .int .i64 z.a.length)], [(0, ⟨1, z.a ++ z.b.map intE, iZ, false⟩)], 1⟩) (fun z => z.b.length) ⟨[], l, by simp⟩ (Le.of [] (Nat.le_refl _) ?_ ?_ ?_) ?_
  · simp only [eL, eH, eG, leO, Nat.beq, reduceLT]
  · simp only [eL, eH, eG, leO, Nat.beq, reduceLT]; simp
  · simp only [eL, eH, eG, leO, Nat.beq, reduceLT]; rfl
  · rintro ⟨a, b, hz⟩
    cases b with
    | nil =>
      have hf : decide ((l.length : Int) < l.length) = false := decide_eq_false (by omega)
      simp only [List.length_nil, Nat.add_zero] at hz
      simp only [hT, List.map_nil, List.append_nil, hf, hz, ↓If_lit, eA, Nat.beq, List.toArray, reduceAdd, reduceLT, reduceLeDiff, reduceToNat]
      (try unfold lim); repeat first | ((with_reducible refine And.intro ?_ ?_); (first | omega | exact ⟨by omega, by omega⟩ | rfl)) | intro _
      trivial
    | cons x b =>
      simp only [List.length_cons] at hz
      have hf : decide ((a.length : Int) < (a.length + (b.length + 1) : Nat)) = true := decide_eq_true (by omega)
      simp only [hT, List.map_cons, hf, getD_mid, set_mid, List.length_append, List.length_cons, List.length_map, intE, Int.toNat_natCast, ↓If_lit, eA, Nat.beq, List.toArray, reduceAdd, reduceLT, reduceLeDiff, reduceToNat]
      (try unfold lim); repeat first | ((with_reducible refine And.intro ?_ ?_); (first | omega | exact ⟨by omega, by omega⟩ | rfl)) | intro _
      refine ⟨⟨a ++ [[.int .i64 (k + 1 * a.length)]], b, by simp; omega⟩, Nat.lt_succ_self _, Le.of [] (Nat.le_refl _) ?_ ?_ ?_⟩
      · simp only [eL, eH, eG, leO, Nat.beq, reduceLT]
      · simp only [eL, eH, eG, leO, Nat.beq, reduceLT]; simp; omega
      · simp only [eL, eH, eG, leO, Nat.beq, reduceLT]; simp
theorem cln_cellO (l : List VCell) : ∀ r ∈ l.map cellO, cln r := by
  intro r hr
  obtain ⟨x, _, rfl⟩ := List.mem_map.1 hr
  intro ρ N
  simp only [cellO, eL, eH, eG, leO, Nat.beq, reduceLT]
theorem TY_markPlnCellS {P : Program} (hP : P = Tryz.prog) : (((lkT P 39 = 1) ∧ (elT P 39 = some ((true, (5, 56))))) ∧ ((fldT P 156 0 = some ((0, (false, 1)))) ∧ ((tyT P 3 = some ((false, 1))) ∧ (fldT P 156 1 = some ((1, (true, 2))))))) ∧ (((fldT P 153 0 = some ((0, (false, 1)))) ∧ ((fldT P 153 1 = some ((1, (false, 1)))) ∧ (fldT P 156 2 = some ((3, (false, 1)))))) ∧ ((tyT P 4 = some ((false, 1))) ∧ ((fldT P 156 3 = some ((4, (false, 1)))) ∧ (tyT P 154 = some ((false, 1)))))) := by subst hP; refine ⟨⟨⟨?_, ?_⟩, ⟨?_, ⟨?_, ?_⟩⟩⟩, ⟨⟨?_, ⟨?_, ?_⟩⟩, ⟨?_, ⟨?_, ?_⟩⟩⟩⟩ <;> kernel_rfl
theorem markPlnCellS {P : Program} [Known P] (hP : P = Tryz.prog) (l : List VCell) (hs : sumC (fun x : VCell => 4 + 4 * x.2.2.2.1.length) l ≤ 1000000000) (k : Int) (h1 : 0 ≤ k) (h2 : k ≤ 100000000000) : FunM P 73 1 [.os 0, .int .i64 k] [(0, ⟨5, l.map cellO, cZ, false⟩)] (.int .i64 (k + sumC (fun x : VCell => 4 + 4 * x.2.2.2.1.length) l)) [] := by
  refine fun_ofM (fn := Tryz.f73) (hP ▸ Tryz.func73) (by kernel_rfl) (by kernel_rfl) (by kernel_rfl) (by kernel_rfl) ?_
  have hT := TY_markPlnCellS hP
  have mk := fun l hs k h1 h2 => markVmOrderS hP l hs k h1 h2
  clear hP
  intro hl
  clear hl
  simp only [Tryz.f73, hT, eA, Nat.beq, List.toArray, reduceAdd, reduceLT, reduceLeDiff, reduceToNat]
  refine wpc_loop (Zq (fun x : VCell => 4 + 4 * x.2.2.2.1.length) l.length (sumC (fun x : VCell => 4 + 4 * x.2.2.2.1.length) l)) (fun z => ⟨[(0, .os 0), (1, .int .i64 (k + z.m)), (5, .int .i64 z.a.length)], [(0, ⟨5, z.a ++ z.b.map cellO, cZ, true⟩)], 1⟩) (fun z => z.b.length) ⟨[], l, 0, by simp, by simp, fun r hr => absurd hr (by simp)⟩ (Le.of [] (Nat.le_refl _) ?_ ?_ ?_) ?_
  · simp only [eL, eH, eG, leO, Nat.beq, reduceLT]
  · simp only [eL, eH, eG, leO, Nat.beq, reduceLT]; simp
  · simp only [eL, eH, eG, leO, Nat.beq, reduceLT]; rfl
  · rintro ⟨a, b, m, hz, hq, hc⟩
    cases b with
    | nil =>
      have hf : decide ((l.length : Int) < l.length) = false := decide_eq_false (by omega)
      simp only [List.length_nil, Nat.add_zero] at hz
      simp only [sumC, Nat.add_zero] at hq
      simp only [hT, List.map_nil, List.append_nil, hf, hz, ← hq, ↓If_lit, eA, Nat.beq, List.toArray, reduceAdd, reduceLT, reduceLeDiff, reduceToNat]
      (try unfold lim); repeat first | ((with_reducible refine And.intro ?_ ?_); (first | omega | exact ⟨by omega, by omega⟩ | rfl)) | intro _
      trivial
    | cons x b =>
      simp only [List.length_cons] at hz
      simp only [sumC] at hq
      have hf : decide ((a.length : Int) < (a.length + (b.length + 1) : Nat)) = true := decide_eq_true (by omega)
      simp only [hT, List.map_cons, hf, getD_mid, set_mid, List.length_append, List.length_cons, List.length_map, cellO, Int.toNat_natCast, ↓If_lit, eA, Nat.beq, List.toArray, reduceAdd, reduceLT, reduceLeDiff, reduceToNat]
      (try unfold lim); repeat first | ((with_reducible refine And.intro ?_ ?_); (first | omega | exact ⟨by omega, by omega⟩ | rfl)) | intro _
      refine FunM.lend (mk x.2.2.2.1 (by omega) (k + m + 1 + 1 + 1 + 1) (by omega) (by omega)) ([(0, some 1)]) 0 (by simp only [eD, eM, Nat.beq, reduceLT, reduceAdd, reduceSub, AV.nb]) (by simp only [eD, eM, Nat.beq, reduceLT, reduceAdd, reduceSub, AV.nb]) (by simp only [eD, eM, Nat.beq, reduceLT, reduceAdd, reduceSub, AV.nb]) (by simp only [eD, eM, Nat.beq, reduceLT, reduceAdd, reduceSub, AV.nb]) (by simp only [eD, eM, Nat.beq, reduceLT, reduceAdd, reduceSub, AV.nb]) (by simp only [eD, eM, Nat.beq, reduceLT, reduceAdd, reduceSub, AV.nb]) rfl ?_; simp only [hT, nneg, decide_true, decide_false, ↓If_lit, Int.reduceLT, Int.reduceLE, eD, eM, Nat.beq, reduceLT, reduceAdd, reduceSub, AV.nb, eA, Nat.beq, List.toArray, reduceAdd, reduceLT, reduceLeDiff, reduceToNat]
      (try unfold lim); repeat first | ((with_reducible refine And.intro ?_ ?_); (first | omega | exact ⟨by omega, by omega⟩ | rfl)) | intro _
      refine ⟨⟨a ++ [[.int .i64 (k + m), .int .i64 (k + m + 1), .int .i64 (k + m + 1 + 1), .bool (decide ((k + m + 1 + 1 + 1).tmod 3 = 0)), .dead]], b, m + (4 + 4 * x.2.2.2.1.length), by simp; omega, by omega, fun r hr => ?_⟩, Nat.lt_succ_self _, Le.of [] (Nat.le_refl _) ?_ ?_ ?_⟩
      · rcases List.mem_append.1 hr with hr | hr
        · exact hc r hr
        · obtain rfl := List.mem_singleton.1 hr
          intro ρ N
          simp only [eL, eH, eG, leO, Nat.beq, reduceLT]
      · simp only [eL, eH, eG, leO, Nat.beq, reduceLT]
      · simp only [eL, eH, eG, leO, Nat.beq, reduceLT]; simp; omega
      · simp only [eL, eH, eG, leO, Nat.beq, reduceLT]
        rw [List.append_assoc]
        exact leR_mid _ _ _ _ _ (cln_cellO b) (by simp only [eL, eH, eG, leO, Nat.beq, reduceLT]) a hc
theorem cln_wayO (l : List VWay) : ∀ r ∈ l.map wayO, cln r := by
  intro r hr
  obtain ⟨x, _, rfl⟩ := List.mem_map.1 hr
  intro ρ N
  simp only [wayO, eL, eH, eG, leO, Nat.beq, reduceLT]
theorem TY_markPlnWayS {P : Program} (hP : P = Tryz.prog) : (((lkT P 40 = 1) ∧ (elT P 40 = some ((true, (5, 56))))) ∧ ((fldT P 160 0 = some ((0, (false, 1)))) ∧ ((tyT P 3 = some ((false, 1))) ∧ (fldT P 160 1 = some ((1, (false, 1))))))) ∧ (((fldT P 160 2 = some ((2, (false, 1)))) ∧ (fldT P 160 3 = some ((3, (false, 1))))) ∧ ((tyT P 4 = some ((false, 1))) ∧ ((fldT P 160 4 = some ((4, (false, 1)))) ∧ (tyT P 158 = some ((false, 1)))))) := by subst hP; refine ⟨⟨⟨?_, ?_⟩, ⟨?_, ⟨?_, ?_⟩⟩⟩, ⟨⟨?_, ?_⟩, ⟨?_, ⟨?_, ?_⟩⟩⟩⟩ <;> kernel_rfl
theorem markPlnWayS {P : Program} [Known P] (hP : P = Tryz.prog) (l : List VWay) (hs : sumC (fun x : VWay => 4 + 7 * x.2.2.2.2.1.length) l ≤ 1000000000) (k : Int) (h1 : 0 ≤ k) (h2 : k ≤ 100000000000) : FunM P 74 1 [.os 0, .int .i64 k] [(0, ⟨5, l.map wayO, wZ, false⟩)] (.int .i64 (k + sumC (fun x : VWay => 4 + 7 * x.2.2.2.2.1.length) l)) [] := by
  refine fun_ofM (fn := Tryz.f74) (hP ▸ Tryz.func74) (by kernel_rfl) (by kernel_rfl) (by kernel_rfl) (by kernel_rfl) ?_
  have hT := TY_markPlnWayS hP
  have mk := fun l hs k h1 h2 => markGrdRuleS hP l hs k h1 h2
  clear hP
  intro hl
  clear hl
  simp only [Tryz.f74, hT, eA, Nat.beq, List.toArray, reduceAdd, reduceLT, reduceLeDiff, reduceToNat]
  refine wpc_loop (Zq (fun x : VWay => 4 + 7 * x.2.2.2.2.1.length) l.length (sumC (fun x : VWay => 4 + 7 * x.2.2.2.2.1.length) l)) (fun z => ⟨[(0, .os 0), (1, .int .i64 (k + z.m)), (5, .int .i64 z.a.length)], [(0, ⟨5, z.a ++ z.b.map wayO, wZ, true⟩)], 1⟩) (fun z => z.b.length) ⟨[], l, 0, by simp, by simp, fun r hr => absurd hr (by simp)⟩ (Le.of [] (Nat.le_refl _) ?_ ?_ ?_) ?_
  · simp only [eL, eH, eG, leO, Nat.beq, reduceLT]
  · simp only [eL, eH, eG, leO, Nat.beq, reduceLT]; simp
  · simp only [eL, eH, eG, leO, Nat.beq, reduceLT]; rfl
  · rintro ⟨a, b, m, hz, hq, hc⟩
    cases b with
    | nil =>
      have hf : decide ((l.length : Int) < l.length) = false := decide_eq_false (by omega)
      simp only [List.length_nil, Nat.add_zero] at hz
      simp only [sumC, Nat.add_zero] at hq
      simp only [hT, List.map_nil, List.append_nil, hf, hz, ← hq, ↓If_lit, eA, Nat.beq, List.toArray, reduceAdd, reduceLT, reduceLeDiff, reduceToNat]
      (try unfold lim); repeat first | ((with_reducible refine And.intro ?_ ?_); (first | omega | exact ⟨by omega, by omega⟩ | rfl)) | intro _
      trivial
    | cons x b =>
      simp only [List.length_cons] at hz
      simp only [sumC] at hq
      have hf : decide ((a.length : Int) < (a.length + (b.length + 1) : Nat)) = true := decide_eq_true (by omega)
      simp only [hT, List.map_cons, hf, getD_mid, set_mid, List.length_append, List.length_cons, List.length_map, wayO, Int.toNat_natCast, ↓If_lit, eA, Nat.beq, List.toArray, reduceAdd, reduceLT, reduceLeDiff, reduceToNat]
      (try unfold lim); repeat first | ((with_reducible refine And.intro ?_ ?_); (first | omega | exact ⟨by omega, by omega⟩ | rfl)) | intro _
      refine FunM.lend (mk x.2.2.2.2.1 (by omega) (k + m + 1 + 1 + 1 + 1) (by omega) (by omega)) ([(0, some 1)]) 0 (by simp only [eD, eM, Nat.beq, reduceLT, reduceAdd, reduceSub, AV.nb]) (by simp only [eD, eM, Nat.beq, reduceLT, reduceAdd, reduceSub, AV.nb]) (by simp only [eD, eM, Nat.beq, reduceLT, reduceAdd, reduceSub, AV.nb]) (by simp only [eD, eM, Nat.beq, reduceLT, reduceAdd, reduceSub, AV.nb]) (by simp only [eD, eM, Nat.beq, reduceLT, reduceAdd, reduceSub, AV.nb]) (by simp only [eD, eM, Nat.beq, reduceLT, reduceAdd, reduceSub, AV.nb]) rfl ?_; simp only [hT, nneg, decide_true, decide_false, ↓If_lit, Int.reduceLT, Int.reduceLE, eD, eM, Nat.beq, reduceLT, reduceAdd, reduceSub, AV.nb, eA, Nat.beq, List.toArray, reduceAdd, reduceLT, reduceLeDiff, reduceToNat]
      (try unfold lim); repeat first | ((with_reducible refine And.intro ?_ ?_); (first | omega | exact ⟨by omega, by omega⟩ | rfl)) | intro _
      refine ⟨⟨a ++ [[.int .i64 (k + m), .int .i64 (k + m + 1), .int .i64 (k + m + 1 + 1), .bool (decide ((k + m + 1 + 1 + 1).tmod 3 = 0)), .dead]], b, m + (4 + 7 * x.2.2.2.2.1.length), by simp; omega, by omega, fun r hr => ?_⟩, Nat.lt_succ_self _, Le.of [] (Nat.le_refl _) ?_ ?_ ?_⟩
      · rcases List.mem_append.1 hr with hr | hr
        · exact hc r hr
        · obtain rfl := List.mem_singleton.1 hr
          intro ρ N
          simp only [eL, eH, eG, leO, Nat.beq, reduceLT]
      · simp only [eL, eH, eG, leO, Nat.beq, reduceLT]
      · simp only [eL, eH, eG, leO, Nat.beq, reduceLT]; simp; omega
      · simp only [eL, eH, eG, leO, Nat.beq, reduceLT]
        rw [List.append_assoc]
        exact leR_mid _ _ _ _ _ (cln_wayO b) (by simp only [eL, eH, eG, leO, Nat.beq, reduceLT]) a hc
theorem cln_turnO (l : List (List Int)) : ∀ r ∈ l.map turnO, cln r := by
  intro r hr
  obtain ⟨x, _, rfl⟩ := List.mem_map.1 hr
  intro ρ N
  simp only [turnO, eL, eH, eG, leO, Nat.beq, reduceLT]
theorem TY_markIntSS {P : Program} (hP : P = Tryz.prog) : (lkT P 25 = 1) ∧ ((elT P 25 = some ((false, (1, 24)))) ∧ (tyT P 33 = some ((false, 1)))) := by subst hP; refine ⟨?_, ⟨?_, ?_⟩⟩ <;> kernel_rfl
theorem markIntSS {P : Program} [Known P] (hP : P = Tryz.prog) (l : List (List Int)) (hs : sumC (fun x : (List Int) => 1 * x.length) l ≤ 1000000000) (k : Int) (h1 : 0 ≤ k) (h2 : k ≤ 100000000000) : FunM P 76 1 [.os 0, .int .i64 k] [(0, ⟨1, l.map turnO, tZ, false⟩)] (.int .i64 (k + sumC (fun x : (List Int) => 1 * x.length) l)) [] := by
  refine fun_ofM (fn := Tryz.f76) (hP ▸ Tryz.func76) (by kernel_rfl) (by kernel_rfl) (by kernel_rfl) (by kernel_rfl) ?_
  have hT := TY_markIntSS hP
  have mk := fun l hs k h1 h2 => markIntC hP l hs k h1 h2
  clear hP
  intro hl
  clear hl
  simp only [Tryz.f76, hT, eA, Nat.beq, List.toArray, reduceAdd, reduceLT, reduceLeDiff, reduceToNat]
  refine wpc_loop (Zq (fun x : (List Int) => 1 * x.length) l.length (sumC (fun x : (List Int) => 1 * x.length) l)) (fun z => ⟨[(0, .os 0), (1, .int .i64 (k + z.m)), (5, .int .i64 z.a.length)], [(0, ⟨1, z.a ++ z.b.map turnO, tZ, true⟩)], 1⟩) (fun z => z.b.length) ⟨[], l, 0, by simp, by simp, fun r hr => absurd hr (by simp)⟩ (Le.of [] (Nat.le_refl _) ?_ ?_ ?_) ?_
  · simp only [eL, eH, eG, leO, Nat.beq, reduceLT]
  · simp only [eL, eH, eG, leO, Nat.beq, reduceLT]; simp
  · simp only [eL, eH, eG, leO, Nat.beq, reduceLT]; rfl
  · rintro ⟨a, b, m, hz, hq, hc⟩
    cases b with
    | nil =>
      have hf : decide ((l.length : Int) < l.length) = false := decide_eq_false (by omega)
      simp only [List.length_nil, Nat.add_zero] at hz
      simp only [sumC, Nat.add_zero] at hq
      simp only [hT, List.map_nil, List.append_nil, hf, hz, ← hq, ↓If_lit, eA, Nat.beq, List.toArray, reduceAdd, reduceLT, reduceLeDiff, reduceToNat]
      (try unfold lim); repeat first | ((with_reducible refine And.intro ?_ ?_); (first | omega | exact ⟨by omega, by omega⟩ | rfl)) | intro _
      trivial
    | cons x b =>
      simp only [List.length_cons] at hz
      simp only [sumC] at hq
      have hf : decide ((a.length : Int) < (a.length + (b.length + 1) : Nat)) = true := decide_eq_true (by omega)
      simp only [hT, List.map_cons, hf, getD_mid, set_mid, List.length_append, List.length_cons, List.length_map, turnO, Int.toNat_natCast, ↓If_lit, eA, Nat.beq, List.toArray, reduceAdd, reduceLT, reduceLeDiff, reduceToNat]
      (try unfold lim); repeat first | ((with_reducible refine And.intro ?_ ?_); (first | omega | exact ⟨by omega, by omega⟩ | rfl)) | intro _
      refine FunM.lend (mk x (by omega) (k + m) (by omega) (by omega)) ([(0, some 1)]) 0 (by simp only [eD, eM, Nat.beq, reduceLT, reduceAdd, reduceSub, AV.nb]) (by simp only [eD, eM, Nat.beq, reduceLT, reduceAdd, reduceSub, AV.nb]) (by simp only [eD, eM, Nat.beq, reduceLT, reduceAdd, reduceSub, AV.nb]) (by simp only [eD, eM, Nat.beq, reduceLT, reduceAdd, reduceSub, AV.nb]) (by simp only [eD, eM, Nat.beq, reduceLT, reduceAdd, reduceSub, AV.nb]) (by simp only [eD, eM, Nat.beq, reduceLT, reduceAdd, reduceSub, AV.nb]) rfl ?_; simp only [hT, nneg, decide_true, decide_false, ↓If_lit, Int.reduceLT, Int.reduceLE, eD, eM, Nat.beq, reduceLT, reduceAdd, reduceSub, AV.nb, eA, Nat.beq, List.toArray, reduceAdd, reduceLT, reduceLeDiff, reduceToNat]
      (try unfold lim); repeat first | ((with_reducible refine And.intro ?_ ?_); (first | omega | exact ⟨by omega, by omega⟩ | rfl)) | intro _
      refine ⟨⟨a ++ [[.dead]], b, m + (1 * x.length), by simp; omega, by omega, fun r hr => ?_⟩, Nat.lt_succ_self _, Le.of [] (Nat.le_refl _) ?_ ?_ ?_⟩
      · rcases List.mem_append.1 hr with hr | hr
        · exact hc r hr
        · obtain rfl := List.mem_singleton.1 hr
          intro ρ N
          simp only [eL, eH, eG, leO, Nat.beq, reduceLT]
      · simp only [eL, eH, eG, leO, Nat.beq, reduceLT]
      · simp only [eL, eH, eG, leO, Nat.beq, reduceLT]; simp; omega
      · simp only [eL, eH, eG, leO, Nat.beq, reduceLT]
        rw [List.append_assoc]
        exact leR_mid _ _ _ _ _ (cln_turnO b) (by simp only [eL, eH, eG, leO, Nat.beq, reduceLT]) a hc
def plnM (p : VPln) : Nat := sumC (fun x : VCell => 4 + 4 * x.2.2.2.1.length) p.cells + sumC (fun x : VWay => 4 + 7 * x.2.2.2.2.1.length) p.ways + 2 * p.slots.length + sumC (fun x : List Int => 1 * x.length) p.turns
theorem TY_markPlnPlan {P : Program} (hP : P = Tryz.prog) : (((fldT P 43 3 = some ((3, (false, 1)))) ∧ (tyT P 39 = some ((false, 1)))) ∧ ((fldT P 43 4 = some ((4, (false, 1)))) ∧ (tyT P 40 = some ((false, 1))))) ∧ (((fldT P 43 5 = some ((5, (false, 1)))) ∧ (tyT P 41 = some ((false, 1)))) ∧ ((fldT P 43 6 = some ((6, (false, 1)))) ∧ (tyT P 25 = some ((false, 1))))) := by subst hP; refine ⟨⟨⟨?_, ?_⟩, ⟨?_, ?_⟩⟩, ⟨⟨?_, ?_⟩, ⟨?_, ?_⟩⟩⟩ <;> kernel_rfl
theorem markPlnPlan {P : Program} [Known P] (hP : P = Tryz.prog) (p : VPln) (hs : plnM p ≤ 1000000000) (a b c : Int) : FunM P 19 4 [.agg [.int .i64 a, .int .i64 b, .int .i64 c, .os 0, .os 1, .os 2, .os 3], .int .i64 1] [(0, ⟨5, p.cells.map cellO, cZ, false⟩), (1, ⟨5, p.ways.map wayO, wZ, false⟩), (2, ⟨2, p.slots.map slotE, sZ, false⟩), (3, ⟨1, p.turns.map turnO, tZ, false⟩)] (.int .i64 (1 + plnM p)) [] := by
  refine fun_ofM (fn := Tryz.f19) (hP ▸ Tryz.func19) (by kernel_rfl) (by kernel_rfl) (by kernel_rfl) (by kernel_rfl) ?_
  have hT := TY_markPlnPlan hP
  have m1 := fun l hs k h1 h2 => markPlnCellS hP l hs k h1 h2
  have m2 := fun l hs k h1 h2 => markPlnWayS hP l hs k h1 h2
  have m3 := fun l hs k h1 h2 => markPlnSlotS hP l hs k h1 h2
  have m4 := fun l hs k h1 h2 => markIntSS hP l hs k h1 h2
  clear hP
  intro hl
  clear hl
  unfold plnM at *
  simp only [Tryz.f19, hT, eA, Nat.beq, List.toArray, reduceAdd, reduceLT, reduceLeDiff, reduceToNat]
  refine ⟨rfl, ?_⟩
  refine FunM.lend (m1 p.cells (by omega) 1 (by omega) (by omega)) ([(0, some 5)]) 0 (by simp only [eD, eM, Nat.beq, reduceLT, reduceAdd, reduceSub, AV.nb]) (by simp only [eD, eM, Nat.beq, reduceLT, reduceAdd, reduceSub, AV.nb]) (by simp only [eD, eM, Nat.beq, reduceLT, reduceAdd, reduceSub, AV.nb]) (by simp only [eD, eM, Nat.beq, reduceLT, reduceAdd, reduceSub, AV.nb]) (by simp only [eD, eM, Nat.beq, reduceLT, reduceAdd, reduceSub, AV.nb]) (by simp only [eD, eM, Nat.beq, reduceLT, reduceAdd, reduceSub, AV.nb]) rfl ?_; simp only [hT, nneg, decide_true, decide_false, ↓If_lit, Int.reduceLT, Int.reduceLE, eD, eM, Nat.beq, reduceLT, reduceAdd, reduceSub, AV.nb, eA, Nat.beq, List.toArray, reduceAdd, reduceLT, reduceLeDiff, reduceToNat]
  refine ⟨rfl, ?_⟩
  refine FunM.lend (m2 p.ways (by omega) (1 + sumC (fun x : VCell => 4 + 4 * x.2.2.2.1.length) p.cells) (by omega) (by omega)) ([(0, some 6)]) 0 (by simp only [eD, eM, Nat.beq, reduceLT, reduceAdd, reduceSub, AV.nb]) (by simp only [eD, eM, Nat.beq, reduceLT, reduceAdd, reduceSub, AV.nb]) (by simp only [eD, eM, Nat.beq, reduceLT, reduceAdd, reduceSub, AV.nb]) (by simp only [eD, eM, Nat.beq, reduceLT, reduceAdd, reduceSub, AV.nb]) (by simp only [eD, eM, Nat.beq, reduceLT, reduceAdd, reduceSub, AV.nb]) (by simp only [eD, eM, Nat.beq, reduceLT, reduceAdd, reduceSub, AV.nb]) rfl ?_; simp only [hT, nneg, decide_true, decide_false, ↓If_lit, Int.reduceLT, Int.reduceLE, eD, eM, Nat.beq, reduceLT, reduceAdd, reduceSub, AV.nb, eA, Nat.beq, List.toArray, reduceAdd, reduceLT, reduceLeDiff, reduceToNat]
  refine ⟨rfl, ?_⟩
  refine FunM.lend (m3 p.slots (by omega) (1 + sumC (fun x : VCell => 4 + 4 * x.2.2.2.1.length) p.cells + sumC (fun x : VWay => 4 + 7 * x.2.2.2.2.1.length) p.ways) (by omega) (by omega)) ([(0, some 7)]) 0 (by simp only [eD, eM, Nat.beq, reduceLT, reduceAdd, reduceSub, AV.nb]) (by simp only [eD, eM, Nat.beq, reduceLT, reduceAdd, reduceSub, AV.nb]) (by simp only [eD, eM, Nat.beq, reduceLT, reduceAdd, reduceSub, AV.nb]) (by simp only [eD, eM, Nat.beq, reduceLT, reduceAdd, reduceSub, AV.nb]) (by simp only [eD, eM, Nat.beq, reduceLT, reduceAdd, reduceSub, AV.nb]) (by simp only [eD, eM, Nat.beq, reduceLT, reduceAdd, reduceSub, AV.nb]) rfl ?_; simp only [hT, nneg, decide_true, decide_false, ↓If_lit, Int.reduceLT, Int.reduceLE, eD, eM, Nat.beq, reduceLT, reduceAdd, reduceSub, AV.nb, eA, Nat.beq, List.toArray, reduceAdd, reduceLT, reduceLeDiff, reduceToNat]
  refine ⟨rfl, ?_⟩
  refine FunM.lend (m4 p.turns (by omega) (1 + sumC (fun x : VCell => 4 + 4 * x.2.2.2.1.length) p.cells + sumC (fun x : VWay => 4 + 7 * x.2.2.2.2.1.length) p.ways + 2 * p.slots.length) (by omega) (by omega)) ([(0, some 8)]) 0 (by simp only [eD, eM, Nat.beq, reduceLT, reduceAdd, reduceSub, AV.nb]) (by simp only [eD, eM, Nat.beq, reduceLT, reduceAdd, reduceSub, AV.nb]) (by simp only [eD, eM, Nat.beq, reduceLT, reduceAdd, reduceSub, AV.nb]) (by simp only [eD, eM, Nat.beq, reduceLT, reduceAdd, reduceSub, AV.nb]) (by simp only [eD, eM, Nat.beq, reduceLT, reduceAdd, reduceSub, AV.nb]) (by simp only [eD, eM, Nat.beq, reduceLT, reduceAdd, reduceSub, AV.nb]) rfl ?_; simp only [hT, nneg, decide_true, decide_false, ↓If_lit, Int.reduceLT, Int.reduceLE, eD, eM, Nat.beq, reduceLT, reduceAdd, reduceSub, AV.nb, eA, Nat.beq, List.toArray, reduceAdd, reduceLT, reduceLeDiff, reduceToNat]
  omega
end Go.Proofs.YtjlmfcddbcoimaaGreat.C
