/- Plans as data; the copies that the laws make of them. -/
import Derived.Test.YtjlmfcddbcoimaaGreatCCod
import Derived.Test.YtjlmfcddbcoimaaGreatCLblA
set_option maxRecDepth 100000
set_option linter.unusedSimpArgs false
set_option linter.unusedVariables false
namespace Go.Proofs.YtjlmfcddbcoimaaGreat.C
open Go Go.Av Go.Proofs
open Nat (reduceAdd reduceLT reduceLeDiff reduceSub)
open Int (reduceToNat)
abbrev VRule := Int × Int × Int × Int × Int × Int × Int × Unit
abbrev r0 : VRule := (0, 0, 0, 0, 0, 0, 0, ())
abbrev rZ : List AV := [.int .i64 0, .int .i64 0, .int .i64 0, .int .i64 0, .int .i64 0, .int .i64 0, .int .i64 0]
def ruleE (r : VRule) : List AV := [.int .i64 r.1, .int .i64 r.2.1, .int .i64 r.2.2.1, .int .i64 r.2.2.2.1, .int .i64 r.2.2.2.2.1, .int .i64 r.2.2.2.2.2.1, .int .i64 r.2.2.2.2.2.2.1]
abbrev grdS (l : List VRule) : AV := .sl 7 (l.map ruleE) rZ
abbrev grdO (l : List VRule) : AV := .own 7 (l.map ruleE) rZ
abbrev VLbl := Int × Int × Unit
abbrev VCell := Int × VLbl × Bool × List VOrd × Unit
abbrev c0 : VCell := (0, (0, 0, ()), false, [], ())
abbrev cZ : List AV := [.int .i64 0, .int .i64 0, .int .i64 0, .bool false, .nils]
def cellS (c : VCell) : List AV := [.int .i64 c.1, .int .i64 c.2.1.1, .int .i64 c.2.1.2.1, .bool c.2.2.1, codeS c.2.2.2.1]
def cellO (c : VCell) : List AV := [.int .i64 c.1, .int .i64 c.2.1.1, .int .i64 c.2.1.2.1, .bool c.2.2.1, codeO c.2.2.2.1]
abbrev VWay := Int × Int × Int × Bool × List VRule × Unit
abbrev w0 : VWay := (0, 0, 0, false, [], ())
abbrev wZ : List AV := [.int .i64 0, .int .i64 0, .int .i64 0, .bool false, .nils]
def wayS (w : VWay) : List AV := [.int .i64 w.1, .int .i64 w.2.1, .int .i64 w.2.2.1, .bool w.2.2.2.1, grdS w.2.2.2.2.1]
def wayO (w : VWay) : List AV := [.int .i64 w.1, .int .i64 w.2.1, .int .i64 w.2.2.1, .bool w.2.2.2.1, grdO w.2.2.2.2.1]
abbrev VSlot := Int × Int × Unit
abbrev s0 : VSlot := (0, 0, ())
abbrev sZ : List AV := [.int .i64 0, .int .i64 0]
def slotE (s : VSlot) : List AV := [.int .i64 s.1, .int .i64 s.2.1]
abbrev iZ : List AV := [.int .i64 0]
def intE (n : Int) : List AV := [.int .i64 n]
abbrev intsS (l : List Int) : AV := .sl 1 (l.map intE) iZ
abbrev intsO (l : List Int) : AV := .own 1 (l.map intE) iZ
def turnS (l : List Int) : List AV := [intsS l]
def turnO (l : List Int) : List AV := [intsO l]
abbrev tZ : List AV := [.nils]
theorem getIn {α : Type} (f : α → List AV) (l : List α) (j : Nat) (d : List AV) (z : α) (h : j < l.length) : (l.map f).getD j d = f (l.getD j z) := by
  simp only [List.getD_eq_getElem?_getD, List.getElem?_map, List.getElem?_eq_getElem h, Option.map_some, Option.getD_some]
theorem rdR_map2 {α : Type} (f g : α → List AV) (hf : ∀ x, rdL (f x) = g x) : ∀ l : List α, rdR (l.map f) = l.map g
  | [] => rfl
  | x :: l => by rw [List.map_cons, rdR, hf, rdR_map2 f g hf l, List.map_cons]
theorem rdR_ord (l : List VOrd) : rdR (l.map ordE) = l.map ordE := rdR_map ordE (fun _ => rfl) l
theorem rdR_rule (l : List VRule) : rdR (l.map ruleE) = l.map ruleE := rdR_map ruleE (fun _ => rfl) l
theorem rdR_slot (l : List VSlot) : rdR (l.map slotE) = l.map slotE := rdR_map slotE (fun _ => rfl) l
theorem rdR_int (l : List Int) : rdR (l.map intE) = l.map intE := rdR_map intE (fun _ => rfl) l
theorem rdR_cell (l : List VCell) : rdR (l.map cellO) = l.map cellS := rdR_map2 cellO cellS (fun c => by simp only [cellO, cellS, rdL, AV.rd, rdR_ord]) l
theorem rdR_way (l : List VWay) : rdR (l.map wayO) = l.map wayS := rdR_map2 wayO wayS (fun c => by simp only [wayO, wayS, rdL, AV.rd, rdR_rule]) l
theorem rdR_turn (l : List (List Int)) : rdR (l.map turnO) = l.map turnS := rdR_map2 turnO turnS (fun c => by simp only [turnO, turnS, rdL, AV.rd, rdR_int]) l
theorem TY_toVmOrder {P : Program} (hP : P = Tryz.prog) : (((zeroT P 274 = some (((.int .i64 0) :: ((.int .i64 0) :: ((.int .i64 0) :: ((.int .i64 0) :: [])))))) ∧ (fldT P 305 0 = some ((0, (false, 1))))) ∧ ((tyT P 3 = some ((false, 1))) ∧ ((fldT P 274 0 = some ((0, (false, 1)))) ∧ (fldT P 305 1 = some ((1, (false, 1))))))) ∧ (((fldT P 274 1 = some ((1, (false, 1)))) ∧ ((fldT P 305 2 = some ((2, (false, 1)))) ∧ (fldT P 274 2 = some ((2, (false, 1)))))) ∧ ((fldT P 305 3 = some ((3, (false, 1)))) ∧ ((fldT P 274 3 = some ((3, (false, 1)))) ∧ (tyT P 274 = some ((true, 4)))))) := by subst hP; refine ⟨⟨⟨?_, ?_⟩, ⟨?_, ⟨?_, ?_⟩⟩⟩, ⟨⟨?_, ⟨?_, ?_⟩⟩, ⟨?_, ⟨?_, ?_⟩⟩⟩⟩ <;> kernel_rfl
theorem toVmOrder {P : Program} [Known P] (hP : P = Tryz.prog) (o : VOrd) : Fun P 284 [.agg (ordE o)] (.agg (ordE o)) := by
  refine fun_of (fn := Tryz.f284) (hP ▸ Tryz.func284) (by kernel_rfl) (by kernel_rfl) (by kernel_rfl) (by kernel_rfl) ?_
  have hT := TY_toVmOrder hP
  clear hP
  intro hl
  clear hl
  simp only [ordE, ruleE, slotE, Tryz.f284, hT, eA, Nat.beq, List.toArray, reduceAdd, reduceLT, reduceLeDiff, reduceToNat]
theorem TY_toVmOrderS {P : Program} (hP : P = Tryz.prog) : ((lkT P 187 = 1) ∧ ((mkT P 154 = some ((4, (32, ((.int .i64 0) :: ((.int .i64 0) :: ((.int .i64 0) :: ((.int .i64 0) :: [])))))))) ∧ (elT P 187 = some ((true, (4, 32)))))) ∧ ((tyT P 305 = some ((true, 4))) ∧ ((elT P 154 = some ((true, (4, 32)))) ∧ (tyT P 274 = some ((true, 4))))) := by subst hP; refine ⟨⟨?_, ⟨?_, ?_⟩⟩, ⟨?_, ⟨?_, ?_⟩⟩⟩ <;> kernel_rfl
theorem toVmOrderS {P : Program} [Known P] (hP : P = Tryz.prog) (l : List (VOrd)) (hm : l.length ≤ 1048576) : Fun P 235 [.sl 4 (l.map ordE) oZ] (.own 4 (l.map ordE) oZ) := by
  refine fun_of (fn := Tryz.f235) (hP ▸ Tryz.func235) (by kernel_rfl) (by kernel_rfl) (by kernel_rfl) (by kernel_rfl) ?_
  have hT := TY_toVmOrderS hP
  have el := @toVmOrder P _ hP
  clear hP
  intro hl
  simp only [limL, limA, and_true, List.length_map] at hl
  simp only [Tryz.f235, hT, eA, Nat.beq, List.toArray, reduceAdd, reduceLT, reduceLeDiff, reduceToNat]
  unfold lim at hl
  have hl' := hl
  (try unfold lim); repeat first | ((with_reducible refine And.intro ?_ ?_); (first | omega | exact ⟨by omega, by omega⟩ | rfl)) | intro _
  refine wpc_loop {i : Nat // i ≤ l.length} (fun i => ⟨[(0, .sl 4 (l.map ordE) oZ), (3, .os 0), (4, .int .i64 i.1)], [(0, ⟨4, (l.take i.1).map ordE ++ List.replicate (l.length - i.1) oZ, oZ, false⟩)], 1⟩) (fun i => l.length - i.1) ⟨0, Nat.zero_le _⟩ (Le.of [] (Nat.zero_le _) ?_ ?_ ?_) ?_
  · simp only [eL, eH, eG, leO, Nat.beq, reduceLT]
  · simp only [eL, eH, eG, leO, Nat.beq, reduceLT] <;> simp
  · simp only [eL, eH, eG, leO, Nat.beq, reduceLT] <;> simp
  · rintro ⟨i, hi⟩
    have hL : (List.map ordE (List.take i l) ++ List.replicate (l.length - i) oZ).length = l.length := by simp only [List.length_append, List.length_map, List.length_take, List.length_replicate]; omega
    simp only [hT, hL, eA, Nat.beq, List.toArray, reduceAdd, reduceLT, reduceLeDiff, reduceToNat]
    refine fun _ => ⟨fun h => ?_, fun h => ?_⟩
    · simp only [decide_eq_true_eq] at h
      have hil : i < l.length := by omega
      have hg : ∀ d, (l.map ordE).getD i d = ordE (l.getD i o0) := fun d => getIn ordE l i d o0 hil
      have fs := fillSet ordE l oZ i o0 hil
      simp only [hT, hL, hg, eA, Nat.beq, List.toArray, reduceAdd, reduceLT, reduceLeDiff, reduceToNat]
      (try unfold lim); repeat first | ((with_reducible refine And.intro ?_ ?_); (first | omega | exact ⟨by omega, by omega⟩ | rfl)) | intro _
      have el := el (l.getD i o0)
      simp only [ordE, ordE] at el fs
      simp only [ordE, hT, eA, Nat.beq, List.toArray, reduceAdd, reduceLT, reduceLeDiff, reduceToNat]
      (try unfold lim); repeat first | ((with_reducible refine And.intro ?_ ?_); (first | omega | exact ⟨by omega, by omega⟩ | rfl)) | intro _
      refine Fun.plain el rfl rfl rfl rfl ?_
      simp only [hT, hL, eA, Nat.beq, List.toArray, reduceAdd, reduceLT, reduceLeDiff, reduceToNat]
      (try unfold lim); repeat first | ((with_reducible refine And.intro ?_ ?_); (first | omega | exact ⟨by omega, by omega⟩ | rfl)) | intro _
      refine ⟨⟨i + 1, hil⟩, by simp only; omega, Le.of [] (Nat.zero_le _) ?_ ?_ ?_⟩
      · simp only [eL, eH, eG, leO, Nat.beq, reduceLT]
      · simp only [eL, eH, eG, leO, Nat.beq, reduceLT] <;> omega
      · simp only [fs, eL, eH, eG, leO, Nat.beq, reduceLT]
    · simp only [decide_eq_false_iff_not] at h
      exact fillAll ordE l _ i (by omega)
theorem TY_toPlnCell {P : Program} (hP : P = Tryz.prog) : ((((zeroT P 156 = some (((.int .i64 0) :: ((.int .i64 0) :: ((.int .i64 0) :: ((.bool false) :: (.nils :: []))))))) ∧ (fldT P 189 0 = some ((0, (false, 1))))) ∧ ((tyT P 3 = some ((false, 1))) ∧ (fldT P 156 0 = some ((0, (false, 1)))))) ∧ (((fldT P 189 1 = some ((1, (true, 2)))) ∧ (tyT P 186 = some ((true, 2)))) ∧ ((fldT P 156 1 = some ((1, (true, 2)))) ∧ (tyT P 153 = some ((true, 2)))))) ∧ ((((fldT P 189 2 = some ((3, (false, 1)))) ∧ (tyT P 4 = some ((false, 1)))) ∧ ((fldT P 156 2 = some ((3, (false, 1)))) ∧ (fldT P 189 3 = some ((4, (false, 1)))))) ∧ (((tyT P 187 = some ((false, 1))) ∧ (fldT P 156 3 = some ((4, (false, 1))))) ∧ ((tyT P 154 = some ((false, 1))) ∧ (tyT P 156 = some ((true, 5)))))) := by subst hP; refine ⟨⟨⟨⟨?_, ?_⟩, ⟨?_, ?_⟩⟩, ⟨⟨?_, ?_⟩, ⟨?_, ?_⟩⟩⟩, ⟨⟨⟨?_, ?_⟩, ⟨?_, ?_⟩⟩, ⟨⟨?_, ?_⟩, ⟨?_, ?_⟩⟩⟩⟩ <;> kernel_rfl
theorem toPlnCell {P : Program} [Known P] (hP : P = Tryz.prog) (c : VCell) (hc : c.2.2.2.1.length ≤ 1048576) : Fun P 153 [.agg (cellS c)] (.agg (cellO c)) := by
  refine fun_of (fn := Tryz.f153) (hP ▸ Tryz.func153) (by kernel_rfl) (by kernel_rfl) (by kernel_rfl) (by kernel_rfl) ?_
  have hT := TY_toPlnCell hP
  have e0 := @toLblLabel P _ hP
  have e1 := @toVmOrderS P _ hP
  clear hP
  intro hl
  clear hl
  simp only [cellS, cellO, Tryz.f153, hT, eA, Nat.beq, List.toArray, reduceAdd, reduceLT, reduceLeDiff, reduceToNat]
  refine Fun.plain (e0 _ _) rfl rfl rfl rfl ?_
  simp only [hT, eA, Nat.beq, List.toArray, reduceAdd, reduceLT, reduceLeDiff, reduceToNat]
  refine Fun.plain (e1 _ hc) rfl rfl rfl rfl ?_
  simp only [hT, eA, Nat.beq, List.toArray, reduceAdd, reduceLT, reduceLeDiff, reduceToNat]
  try rfl
theorem TY_toPlnCellS {P : Program} (hP : P = Tryz.prog) : ((lkT P 22 = 1) ∧ ((mkT P 39 = some ((5, (56, ((.int .i64 0) :: ((.int .i64 0) :: ((.int .i64 0) :: ((.bool false) :: (.nils :: []))))))))) ∧ (elT P 22 = some ((true, (5, 56)))))) ∧ ((tyT P 189 = some ((true, 5))) ∧ ((elT P 39 = some ((true, (5, 56)))) ∧ (tyT P 156 = some ((true, 5))))) := by subst hP; refine ⟨⟨?_, ⟨?_, ?_⟩⟩, ⟨?_, ⟨?_, ?_⟩⟩⟩ <;> kernel_rfl
theorem toPlnCellS {P : Program} [Known P] (hP : P = Tryz.prog) (l : List (VCell)) (d : List AV) (hm : l.length ≤ 1048576) (hn : ∀ i, i < l.length → ((l.getD i c0).2.2.2.1).length ≤ 1048576) : Fun P 57 [.sl 5 (l.map cellS) d] (.own 5 (l.map cellO) cZ) := by
  refine fun_of (fn := Tryz.f57) (hP ▸ Tryz.func57) (by kernel_rfl) (by kernel_rfl) (by kernel_rfl) (by kernel_rfl) ?_
  have hT := TY_toPlnCellS hP
  have el := @toPlnCell P _ hP
  clear hP
  intro hl
  simp only [limL, limA, and_true, List.length_map] at hl
  simp only [Tryz.f57, hT, eA, Nat.beq, List.toArray, reduceAdd, reduceLT, reduceLeDiff, reduceToNat]
  unfold lim at hl
  have hl' := hl
  (try unfold lim); repeat first | ((with_reducible refine And.intro ?_ ?_); (first | omega | exact ⟨by omega, by omega⟩ | rfl)) | intro _
  refine wpc_loop {i : Nat // i ≤ l.length} (fun i => ⟨[(0, .sl 5 (l.map cellS) d), (3, .os 0), (4, .int .i64 i.1)], [(0, ⟨5, (l.take i.1).map cellO ++ List.replicate (l.length - i.1) cZ, cZ, false⟩)], 1⟩) (fun i => l.length - i.1) ⟨0, Nat.zero_le _⟩ (Le.of [] (Nat.zero_le _) ?_ ?_ ?_) ?_
  · simp only [eL, eH, eG, leO, Nat.beq, reduceLT]
  · simp only [eL, eH, eG, leO, Nat.beq, reduceLT] <;> simp
  · simp only [eL, eH, eG, leO, Nat.beq, reduceLT] <;> simp
  · rintro ⟨i, hi⟩
    have hL : (List.map cellO (List.take i l) ++ List.replicate (l.length - i) cZ).length = l.length := by simp only [List.length_append, List.length_map, List.length_take, List.length_replicate]; omega
    simp only [hT, hL, eA, Nat.beq, List.toArray, reduceAdd, reduceLT, reduceLeDiff, reduceToNat]
    refine fun _ => ⟨fun h => ?_, fun h => ?_⟩
    · simp only [decide_eq_true_eq] at h
      have hil : i < l.length := by omega
      have hg : ∀ d, (l.map cellS).getD i d = cellS (l.getD i c0) := fun d => getIn cellS l i d c0 hil
      have fs := fillSet cellO l cZ i c0 hil
      simp only [hT, hL, hg, eA, Nat.beq, List.toArray, reduceAdd, reduceLT, reduceLeDiff, reduceToNat]
      (try unfold lim); repeat first | ((with_reducible refine And.intro ?_ ?_); (first | omega | exact ⟨by omega, by omega⟩ | rfl)) | intro _
      have el := el (l.getD i c0) (hn i hil)
      simp only [cellS, cellO] at el fs
      simp only [cellS, hT, eA, Nat.beq, List.toArray, reduceAdd, reduceLT, reduceLeDiff, reduceToNat]
      (try unfold lim); repeat first | ((with_reducible refine And.intro ?_ ?_); (first | omega | exact ⟨by omega, by omega⟩ | rfl)) | intro _
      refine Fun.plain el rfl rfl rfl rfl ?_
      simp only [hT, hL, eA, Nat.beq, List.toArray, reduceAdd, reduceLT, reduceLeDiff, reduceToNat]
      (try unfold lim); repeat first | ((with_reducible refine And.intro ?_ ?_); (first | omega | exact ⟨by omega, by omega⟩ | rfl)) | intro _
      refine ⟨⟨i + 1, hil⟩, by simp only; omega, Le.of [] (Nat.zero_le _) ?_ ?_ ?_⟩
      · simp only [eL, eH, eG, leO, Nat.beq, reduceLT]
      · simp only [eL, eH, eG, leO, Nat.beq, reduceLT] <;> omega
      · simp only [fs, eL, eH, eG, leO, Nat.beq, reduceLT]
    · simp only [decide_eq_false_iff_not] at h
      exact fillAll cellO l _ i (by omega)
theorem TY_toGrdRule {P : Program} (hP : P = Tryz.prog) : ((((zeroT P 276 = some (((.int .i64 0) :: ((.int .i64 0) :: ((.int .i64 0) :: ((.int .i64 0) :: ((.int .i64 0) :: ((.int .i64 0) :: ((.int .i64 0) :: []))))))))) ∧ (fldT P 307 0 = some ((0, (false, 1))))) ∧ ((tyT P 3 = some ((false, 1))) ∧ (fldT P 276 0 = some ((0, (false, 1)))))) ∧ (((fldT P 307 1 = some ((1, (false, 1)))) ∧ (fldT P 276 1 = some ((1, (false, 1))))) ∧ ((fldT P 307 2 = some ((2, (false, 1)))) ∧ (fldT P 276 2 = some ((2, (false, 1))))))) ∧ ((((fldT P 307 3 = some ((3, (false, 1)))) ∧ (fldT P 276 3 = some ((3, (false, 1))))) ∧ ((fldT P 307 4 = some ((4, (false, 1)))) ∧ (fldT P 276 4 = some ((4, (false, 1)))))) ∧ (((fldT P 307 5 = some ((5, (false, 1)))) ∧ (fldT P 276 5 = some ((5, (false, 1))))) ∧ ((fldT P 307 6 = some ((6, (false, 1)))) ∧ ((fldT P 276 6 = some ((6, (false, 1)))) ∧ (tyT P 276 = some ((true, 7))))))) := by subst hP; refine ⟨⟨⟨⟨?_, ?_⟩, ⟨?_, ?_⟩⟩, ⟨⟨?_, ?_⟩, ⟨?_, ?_⟩⟩⟩, ⟨⟨⟨?_, ?_⟩, ⟨?_, ?_⟩⟩, ⟨⟨?_, ?_⟩, ⟨?_, ⟨?_, ?_⟩⟩⟩⟩⟩ <;> kernel_rfl
theorem toGrdRule {P : Program} [Known P] (hP : P = Tryz.prog) (r : VRule) : Fun P 285 [.agg (ruleE r)] (.agg (ruleE r)) := by
  refine fun_of (fn := Tryz.f285) (hP ▸ Tryz.func285) (by kernel_rfl) (by kernel_rfl) (by kernel_rfl) (by kernel_rfl) ?_
  have hT := TY_toGrdRule hP
  clear hP
  intro hl
  clear hl
  simp only [ordE, ruleE, slotE, Tryz.f285, hT, eA, Nat.beq, List.toArray, reduceAdd, reduceLT, reduceLeDiff, reduceToNat]
theorem TY_toGrdRuleS {P : Program} (hP : P = Tryz.prog) : ((lkT P 191 = 1) ∧ ((mkT P 158 = some ((7, (56, ((.int .i64 0) :: ((.int .i64 0) :: ((.int .i64 0) :: ((.int .i64 0) :: ((.int .i64 0) :: ((.int .i64 0) :: ((.int .i64 0) :: []))))))))))) ∧ (elT P 191 = some ((true, (7, 56)))))) ∧ ((tyT P 307 = some ((true, 7))) ∧ ((elT P 158 = some ((true, (7, 56)))) ∧ (tyT P 276 = some ((true, 7))))) := by subst hP; refine ⟨⟨?_, ⟨?_, ?_⟩⟩, ⟨?_, ⟨?_, ?_⟩⟩⟩ <;> kernel_rfl
theorem toGrdRuleS {P : Program} [Known P] (hP : P = Tryz.prog) (l : List (VRule)) (hm : l.length ≤ 1048576) : Fun P 236 [.sl 7 (l.map ruleE) rZ] (.own 7 (l.map ruleE) rZ) := by
  refine fun_of (fn := Tryz.f236) (hP ▸ Tryz.func236) (by kernel_rfl) (by kernel_rfl) (by kernel_rfl) (by kernel_rfl) ?_
  have hT := TY_toGrdRuleS hP
  have el := @toGrdRule P _ hP
  clear hP
  intro hl
  simp only [limL, limA, and_true, List.length_map] at hl
  simp only [Tryz.f236, hT, eA, Nat.beq, List.toArray, reduceAdd, reduceLT, reduceLeDiff, reduceToNat]
  unfold lim at hl
  have hl' := hl
  (try unfold lim); repeat first | ((with_reducible refine And.intro ?_ ?_); (first | omega | exact ⟨by omega, by omega⟩ | rfl)) | intro _
  refine wpc_loop {i : Nat // i ≤ l.length} (fun i => ⟨[(0, .sl 7 (l.map ruleE) rZ), (3, .os 0), (4, .int .i64 i.1)], [(0, ⟨7, (l.take i.1).map ruleE ++ List.replicate (l.length - i.1) rZ, rZ, false⟩)], 1⟩) (fun i => l.length - i.1) ⟨0, Nat.zero_le _⟩ (Le.of [] (Nat.zero_le _) ?_ ?_ ?_) ?_
  · simp only [eL, eH, eG, leO, Nat.beq, reduceLT]
  · simp only [eL, eH, eG, leO, Nat.beq, reduceLT] <;> simp
  · simp only [eL, eH, eG, leO, Nat.beq, reduceLT] <;> simp
  · rintro ⟨i, hi⟩
    have hL : (List.map ruleE (List.take i l) ++ List.replicate (l.length - i) rZ).length = l.length := by simp only [List.length_append, List.length_map, List.length_take, List.length_replicate]; omega
    simp only [hT, hL, eA, Nat.beq, List.toArray, reduceAdd, reduceLT, reduceLeDiff, reduceToNat]
    refine fun _ => ⟨fun h => ?_, fun h => ?_⟩
    · simp only [decide_eq_true_eq] at h
      have hil : i < l.length := by omega
      have hg : ∀ d, (l.map ruleE).getD i d = ruleE (l.getD i r0) := fun d => getIn ruleE l i d r0 hil
      have fs := fillSet ruleE l rZ i r0 hil
      simp only [hT, hL, hg, eA, Nat.beq, List.toArray, reduceAdd, reduceLT, reduceLeDiff, reduceToNat]
      (try unfold lim); repeat first | ((with_reducible refine And.intro ?_ ?_); (first | omega | exact ⟨by omega, by omega⟩ | rfl)) | intro _
      have el := el (l.getD i r0)
      simp only [ruleE, ruleE] at el fs
      simp only [ruleE, hT, eA, Nat.beq, List.toArray, reduceAdd, reduceLT, reduceLeDiff, reduceToNat]
      (try unfold lim); repeat first | ((with_reducible refine And.intro ?_ ?_); (first | omega | exact ⟨by omega, by omega⟩ | rfl)) | intro _
      refine Fun.plain el rfl rfl rfl rfl ?_
      simp only [hT, hL, eA, Nat.beq, List.toArray, reduceAdd, reduceLT, reduceLeDiff, reduceToNat]
      (try unfold lim); repeat first | ((with_reducible refine And.intro ?_ ?_); (first | omega | exact ⟨by omega, by omega⟩ | rfl)) | intro _
      refine ⟨⟨i + 1, hil⟩, by simp only; omega, Le.of [] (Nat.zero_le _) ?_ ?_ ?_⟩
      · simp only [eL, eH, eG, leO, Nat.beq, reduceLT]
      · simp only [eL, eH, eG, leO, Nat.beq, reduceLT] <;> omega
      · simp only [fs, eL, eH, eG, leO, Nat.beq, reduceLT]
    · simp only [decide_eq_false_iff_not] at h
      exact fillAll ruleE l _ i (by omega)
theorem TY_toPlnWay {P : Program} (hP : P = Tryz.prog) : ((((zeroT P 160 = some (((.int .i64 0) :: ((.int .i64 0) :: ((.int .i64 0) :: ((.bool false) :: (.nils :: []))))))) ∧ (fldT P 193 0 = some ((0, (false, 1))))) ∧ ((tyT P 3 = some ((false, 1))) ∧ (fldT P 160 0 = some ((0, (false, 1)))))) ∧ (((fldT P 193 1 = some ((1, (false, 1)))) ∧ (fldT P 160 1 = some ((1, (false, 1))))) ∧ ((fldT P 193 2 = some ((2, (false, 1)))) ∧ (fldT P 160 2 = some ((2, (false, 1))))))) ∧ ((((fldT P 193 3 = some ((3, (false, 1)))) ∧ (tyT P 4 = some ((false, 1)))) ∧ ((fldT P 160 3 = some ((3, (false, 1)))) ∧ (fldT P 193 4 = some ((4, (false, 1)))))) ∧ (((tyT P 191 = some ((false, 1))) ∧ (fldT P 160 4 = some ((4, (false, 1))))) ∧ ((tyT P 158 = some ((false, 1))) ∧ (tyT P 160 = some ((true, 5)))))) := by subst hP; refine ⟨⟨⟨⟨?_, ?_⟩, ⟨?_, ?_⟩⟩, ⟨⟨?_, ?_⟩, ⟨?_, ?_⟩⟩⟩, ⟨⟨⟨?_, ?_⟩, ⟨?_, ?_⟩⟩, ⟨⟨?_, ?_⟩, ⟨?_, ?_⟩⟩⟩⟩ <;> kernel_rfl
theorem toPlnWay {P : Program} [Known P] (hP : P = Tryz.prog) (w : VWay) (hc : w.2.2.2.2.1.length ≤ 1048576) : Fun P 154 [.agg (wayS w)] (.agg (wayO w)) := by
  refine fun_of (fn := Tryz.f154) (hP ▸ Tryz.func154) (by kernel_rfl) (by kernel_rfl) (by kernel_rfl) (by kernel_rfl) ?_
  have hT := TY_toPlnWay hP
  have e0 := @toGrdRuleS P _ hP
  clear hP
  intro hl
  clear hl
  simp only [wayS, wayO, Tryz.f154, hT, eA, Nat.beq, List.toArray, reduceAdd, reduceLT, reduceLeDiff, reduceToNat]
  refine Fun.plain (e0 _ hc) rfl rfl rfl rfl ?_
  simp only [hT, eA, Nat.beq, List.toArray, reduceAdd, reduceLT, reduceLeDiff, reduceToNat]
  try rfl
theorem TY_toPlnWayS {P : Program} (hP : P = Tryz.prog) : ((lkT P 23 = 1) ∧ ((mkT P 40 = some ((5, (56, ((.int .i64 0) :: ((.int .i64 0) :: ((.int .i64 0) :: ((.bool false) :: (.nils :: []))))))))) ∧ (elT P 23 = some ((true, (5, 56)))))) ∧ ((tyT P 193 = some ((true, 5))) ∧ ((elT P 40 = some ((true, (5, 56)))) ∧ (tyT P 160 = some ((true, 5))))) := by subst hP; refine ⟨⟨?_, ⟨?_, ?_⟩⟩, ⟨?_, ⟨?_, ?_⟩⟩⟩ <;> kernel_rfl
theorem toPlnWayS {P : Program} [Known P] (hP : P = Tryz.prog) (l : List (VWay)) (d : List AV) (hm : l.length ≤ 1048576) (hn : ∀ i, i < l.length → ((l.getD i w0).2.2.2.2.1).length ≤ 1048576) : Fun P 58 [.sl 5 (l.map wayS) d] (.own 5 (l.map wayO) wZ) := by
  refine fun_of (fn := Tryz.f58) (hP ▸ Tryz.func58) (by kernel_rfl) (by kernel_rfl) (by kernel_rfl) (by kernel_rfl) ?_
  have hT := TY_toPlnWayS hP
  have el := @toPlnWay P _ hP
  clear hP
  intro hl
  simp only [limL, limA, and_true, List.length_map] at hl
  simp only [Tryz.f58, hT, eA, Nat.beq, List.toArray, reduceAdd, reduceLT, reduceLeDiff, reduceToNat]
  unfold lim at hl
  have hl' := hl
  (try unfold lim); repeat first | ((with_reducible refine And.intro ?_ ?_); (first | omega | exact ⟨by omega, by omega⟩ | rfl)) | intro _
  refine wpc_loop {i : Nat // i ≤ l.length} (fun i => ⟨[(0, .sl 5 (l.map wayS) d), (3, .os 0), (4, .int .i64 i.1)], [(0, ⟨5, (l.take i.1).map wayO ++ List.replicate (l.length - i.1) wZ, wZ, false⟩)], 1⟩) (fun i => l.length - i.1) ⟨0, Nat.zero_le _⟩ (Le.of [] (Nat.zero_le _) ?_ ?_ ?_) ?_
  · simp only [eL, eH, eG, leO, Nat.beq, reduceLT]
  · simp only [eL, eH, eG, leO, Nat.beq, reduceLT] <;> simp
  · simp only [eL, eH, eG, leO, Nat.beq, reduceLT] <;> simp
  · rintro ⟨i, hi⟩
    have hL : (List.map wayO (List.take i l) ++ List.replicate (l.length - i) wZ).length = l.length := by simp only [List.length_append, List.length_map, List.length_take, List.length_replicate]; omega
    simp only [hT, hL, eA, Nat.beq, List.toArray, reduceAdd, reduceLT, reduceLeDiff, reduceToNat]
    refine fun _ => ⟨fun h => ?_, fun h => ?_⟩
    · simp only [decide_eq_true_eq] at h
      have hil : i < l.length := by omega
      have hg : ∀ d, (l.map wayS).getD i d = wayS (l.getD i w0) := fun d => getIn wayS l i d w0 hil
      have fs := fillSet wayO l wZ i w0 hil
      simp only [hT, hL, hg, eA, Nat.beq, List.toArray, reduceAdd, reduceLT, reduceLeDiff, reduceToNat]
      (try unfold lim); repeat first | ((with_reducible refine And.intro ?_ ?_); (first | omega | exact ⟨by omega, by omega⟩ | rfl)) | intro _
      have el := el (l.getD i w0) (hn i hil)
      simp only [wayS, wayO] at el fs
      simp only [wayS, hT, eA, Nat.beq, List.toArray, reduceAdd, reduceLT, reduceLeDiff, reduceToNat]
      (try unfold lim); repeat first | ((with_reducible refine And.intro ?_ ?_); (first | omega | exact ⟨by omega, by omega⟩ | rfl)) | intro _
      refine Fun.plain el rfl rfl rfl rfl ?_
      simp only [hT, hL, eA, Nat.beq, List.toArray, reduceAdd, reduceLT, reduceLeDiff, reduceToNat]
      (try unfold lim); repeat first | ((with_reducible refine And.intro ?_ ?_); (first | omega | exact ⟨by omega, by omega⟩ | rfl)) | intro _
      refine ⟨⟨i + 1, hil⟩, by simp only; omega, Le.of [] (Nat.zero_le _) ?_ ?_ ?_⟩
      · simp only [eL, eH, eG, leO, Nat.beq, reduceLT]
      · simp only [eL, eH, eG, leO, Nat.beq, reduceLT] <;> omega
      · simp only [fs, eL, eH, eG, leO, Nat.beq, reduceLT]
    · simp only [decide_eq_false_iff_not] at h
      exact fillAll wayO l _ i (by omega)
theorem TY_toPlnSlot {P : Program} (hP : P = Tryz.prog) : ((zeroT P 208 = some (((.int .i64 0) :: ((.int .i64 0) :: [])))) ∧ ((fldT P 210 0 = some ((0, (false, 1)))) ∧ (tyT P 3 = some ((false, 1))))) ∧ (((fldT P 208 0 = some ((0, (false, 1)))) ∧ (fldT P 210 1 = some ((1, (false, 1))))) ∧ ((fldT P 208 1 = some ((1, (false, 1)))) ∧ (tyT P 208 = some ((true, 2))))) := by subst hP; refine ⟨⟨?_, ⟨?_, ?_⟩⟩, ⟨⟨?_, ?_⟩, ⟨?_, ?_⟩⟩⟩ <;> kernel_rfl
theorem toPlnSlot {P : Program} [Known P] (hP : P = Tryz.prog) (s : VSlot) : Fun P 155 [.agg (slotE s)] (.agg (slotE s)) := by
  refine fun_of (fn := Tryz.f155) (hP ▸ Tryz.func155) (by kernel_rfl) (by kernel_rfl) (by kernel_rfl) (by kernel_rfl) ?_
  have hT := TY_toPlnSlot hP
  clear hP
  intro hl
  clear hl
  simp only [ordE, ruleE, slotE, Tryz.f155, hT, eA, Nat.beq, List.toArray, reduceAdd, reduceLT, reduceLeDiff, reduceToNat]
theorem TY_toPlnSlotS {P : Program} (hP : P = Tryz.prog) : ((lkT P 24 = 1) ∧ ((mkT P 41 = some ((2, (16, ((.int .i64 0) :: ((.int .i64 0) :: [])))))) ∧ (elT P 24 = some ((true, (2, 16)))))) ∧ ((tyT P 210 = some ((true, 2))) ∧ ((elT P 41 = some ((true, (2, 16)))) ∧ (tyT P 208 = some ((true, 2))))) := by subst hP; refine ⟨⟨?_, ⟨?_, ?_⟩⟩, ⟨?_, ⟨?_, ?_⟩⟩⟩ <;> kernel_rfl
theorem toPlnSlotS {P : Program} [Known P] (hP : P = Tryz.prog) (l : List (VSlot)) (hm : l.length ≤ 1048576) : Fun P 59 [.sl 2 (l.map slotE) sZ] (.own 2 (l.map slotE) sZ) := by
  refine fun_of (fn := Tryz.f59) (hP ▸ Tryz.func59) (by kernel_rfl) (by kernel_rfl) (by kernel_rfl) (by kernel_rfl) ?_
  have hT := TY_toPlnSlotS hP
  have el := @toPlnSlot P _ hP
  clear hP
  intro hl
  simp only [limL, limA, and_true, List.length_map] at hl
  simp only [Tryz.f59, hT, eA, Nat.beq, List.toArray, reduceAdd, reduceLT, reduceLeDiff, reduceToNat]
  unfold lim at hl
  have hl' := hl
  (try unfold lim); repeat first | ((with_reducible refine And.intro ?_ ?_); (first | omega | exact ⟨by omega, by omega⟩ | rfl)) | intro _
  refine wpc_loop {i : Nat // i ≤ l.length} (fun i => ⟨[(0, .sl 2 (l.map slotE) sZ), (3, .os 0), (4, .int .i64 i.1)], [(0, ⟨2, (l.take i.1).map slotE ++ List.replicate (l.length - i.1) sZ, sZ, false⟩)], 1⟩) (fun i => l.length - i.1) ⟨0, Nat.zero_le _⟩ (Le.of [] (Nat.zero_le _) ?_ ?_ ?_) ?_
  · simp only [eL, eH, eG, leO, Nat.beq, reduceLT]
  · simp only [eL, eH, eG, leO, Nat.beq, reduceLT] <;> simp
  · simp only [eL, eH, eG, leO, Nat.beq, reduceLT] <;> simp
  · rintro ⟨i, hi⟩
    have hL : (List.map slotE (List.take i l) ++ List.replicate (l.length - i) sZ).length = l.length := by simp only [List.length_append, List.length_map, List.length_take, List.length_replicate]; omega
    simp only [hT, hL, eA, Nat.beq, List.toArray, reduceAdd, reduceLT, reduceLeDiff, reduceToNat]
    refine fun _ => ⟨fun h => ?_, fun h => ?_⟩
    · simp only [decide_eq_true_eq] at h
      have hil : i < l.length := by omega
      have hg : ∀ d, (l.map slotE).getD i d = slotE (l.getD i s0) := fun d => getIn slotE l i d s0 hil
      have fs := fillSet slotE l sZ i s0 hil
      simp only [hT, hL, hg, eA, Nat.beq, List.toArray, reduceAdd, reduceLT, reduceLeDiff, reduceToNat]
      (try unfold lim); repeat first | ((with_reducible refine And.intro ?_ ?_); (first | omega | exact ⟨by omega, by omega⟩ | rfl)) | intro _
      have el := el (l.getD i s0)
      simp only [slotE, slotE] at el fs
      simp only [slotE, hT, eA, Nat.beq, List.toArray, reduceAdd, reduceLT, reduceLeDiff, reduceToNat]
      (try unfold lim); repeat first | ((with_reducible refine And.intro ?_ ?_); (first | omega | exact ⟨by omega, by omega⟩ | rfl)) | intro _
      refine Fun.plain el rfl rfl rfl rfl ?_
      simp only [hT, hL, eA, Nat.beq, List.toArray, reduceAdd, reduceLT, reduceLeDiff, reduceToNat]
      (try unfold lim); repeat first | ((with_reducible refine And.intro ?_ ?_); (first | omega | exact ⟨by omega, by omega⟩ | rfl)) | intro _
      refine ⟨⟨i + 1, hil⟩, by simp only; omega, Le.of [] (Nat.zero_le _) ?_ ?_ ?_⟩
      · simp only [eL, eH, eG, leO, Nat.beq, reduceLT]
      · simp only [eL, eH, eG, leO, Nat.beq, reduceLT] <;> omega
      · simp only [fs, eL, eH, eG, leO, Nat.beq, reduceLT]
    · simp only [decide_eq_false_iff_not] at h
      exact fillAll slotE l _ i (by omega)
theorem TY_toIntS {P : Program} (hP : P = Tryz.prog) : ((lkT P 33 = 1) ∧ (mkT P 33 = some ((1, (8, ((.int .i64 0) :: [])))))) ∧ ((elT P 33 = some ((false, (1, 8)))) ∧ (tyT P 3 = some ((false, 1)))) := by subst hP; refine ⟨⟨?_, ?_⟩, ⟨?_, ?_⟩⟩ <;> kernel_rfl
theorem toIntS {P : Program} [Known P] (hP : P = Tryz.prog) (l : List (Int)) (hm : l.length ≤ 1048576) : Fun P 156 [.sl 1 (l.map intE) iZ] (.own 1 (l.map intE) iZ) := by
  refine fun_of (fn := Tryz.f156) (hP ▸ Tryz.func156) (by kernel_rfl) (by kernel_rfl) (by kernel_rfl) (by kernel_rfl) ?_
  have hT := TY_toIntS hP
  clear hP
  intro hl
  simp only [limL, limA, and_true, List.length_map] at hl
  simp only [Tryz.f156, hT, eA, Nat.beq, List.toArray, reduceAdd, reduceLT, reduceLeDiff, reduceToNat]
  unfold lim at hl
  have hl' := hl
  (try unfold lim); repeat first | ((with_reducible refine And.intro ?_ ?_); (first | omega | exact ⟨by omega, by omega⟩ | rfl)) | intro _
  refine wpc_loop {i : Nat // i ≤ l.length} (fun i => ⟨[(0, .sl 1 (l.map intE) iZ), (3, .os 0), (4, .int .i64 i.1)], [(0, ⟨1, (l.take i.1).map intE ++ List.replicate (l.length - i.1) iZ, iZ, false⟩)], 1⟩) (fun i => l.length - i.1) ⟨0, Nat.zero_le _⟩ (Le.of [] (Nat.zero_le _) ?_ ?_ ?_) ?_
  · simp only [eL, eH, eG, leO, Nat.beq, reduceLT]
  · simp only [eL, eH, eG, leO, Nat.beq, reduceLT] <;> simp
  · simp only [eL, eH, eG, leO, Nat.beq, reduceLT] <;> simp
  · rintro ⟨i, hi⟩
    have hL : (List.map intE (List.take i l) ++ List.replicate (l.length - i) iZ).length = l.length := by simp only [List.length_append, List.length_map, List.length_take, List.length_replicate]; omega
    simp only [hT, hL, eA, Nat.beq, List.toArray, reduceAdd, reduceLT, reduceLeDiff, reduceToNat]
    refine fun _ => ⟨fun h => ?_, fun h => ?_⟩
    · simp only [decide_eq_true_eq] at h
      have hil : i < l.length := by omega
      have hg : ∀ d, (l.map intE).getD i d = intE (l.getD i 0) := fun d => getIn intE l i d 0 hil
      have fs := fillSet intE l iZ i 0 hil
      simp only [hT, hL, hg, eA, Nat.beq, List.toArray, reduceAdd, reduceLT, reduceLeDiff, reduceToNat]
      (try unfold lim); repeat first | ((with_reducible refine And.intro ?_ ?_); (first | omega | exact ⟨by omega, by omega⟩ | rfl)) | intro _
      simp only [intE] at fs
      simp only [intE, hT, hL, eA, Nat.beq, List.toArray, reduceAdd, reduceLT, reduceLeDiff, reduceToNat]
      (try unfold lim); repeat first | ((with_reducible refine And.intro ?_ ?_); (first | omega | exact ⟨by omega, by omega⟩ | rfl)) | intro _
      refine ⟨⟨i + 1, hil⟩, by simp only; omega, Le.of [] (Nat.zero_le _) ?_ ?_ ?_⟩
      · simp only [eL, eH, eG, leO, Nat.beq, reduceLT]
      · simp only [eL, eH, eG, leO, Nat.beq, reduceLT] <;> omega
      · simp only [fs, eL, eH, eG, leO, Nat.beq, reduceLT]
    · simp only [decide_eq_false_iff_not] at h
      exact fillAll intE l _ i (by omega)
theorem TY_toIntSS {P : Program} (hP : P = Tryz.prog) : ((lkT P 25 = 1) ∧ (mkT P 25 = some ((1, (24, (.nils :: [])))))) ∧ ((elT P 25 = some ((false, (1, 24)))) ∧ (tyT P 33 = some ((false, 1)))) := by subst hP; refine ⟨⟨?_, ?_⟩, ⟨?_, ?_⟩⟩ <;> kernel_rfl
theorem toIntSS {P : Program} [Known P] (hP : P = Tryz.prog) (l : List (List Int)) (d : List AV) (hm : l.length ≤ 1048576) (hn : ∀ i, i < l.length → ((l.getD i [])).length ≤ 1048576) : Fun P 60 [.sl 1 (l.map turnS) d] (.own 1 (l.map turnO) tZ) := by
  refine fun_of (fn := Tryz.f60) (hP ▸ Tryz.func60) (by kernel_rfl) (by kernel_rfl) (by kernel_rfl) (by kernel_rfl) ?_
  have hT := TY_toIntSS hP
  have el := @toIntS P _ hP
  clear hP
  intro hl
  simp only [limL, limA, and_true, List.length_map] at hl
  simp only [Tryz.f60, hT, eA, Nat.beq, List.toArray, reduceAdd, reduceLT, reduceLeDiff, reduceToNat]
  unfold lim at hl
  have hl' := hl
  (try unfold lim); repeat first | ((with_reducible refine And.intro ?_ ?_); (first | omega | exact ⟨by omega, by omega⟩ | rfl)) | intro _
  refine wpc_loop {i : Nat // i ≤ l.length} (fun i => ⟨[(0, .sl 1 (l.map turnS) d), (3, .os 0), (4, .int .i64 i.1)], [(0, ⟨1, (l.take i.1).map turnO ++ List.replicate (l.length - i.1) tZ, tZ, false⟩)], 1⟩) (fun i => l.length - i.1) ⟨0, Nat.zero_le _⟩ (Le.of [] (Nat.zero_le _) ?_ ?_ ?_) ?_
  · simp only [eL, eH, eG, leO, Nat.beq, reduceLT]
  · simp only [eL, eH, eG, leO, Nat.beq, reduceLT] <;> simp
  · simp only [eL, eH, eG, leO, Nat.beq, reduceLT] <;> simp
  · rintro ⟨i, hi⟩
    have hL : (List.map turnO (List.take i l) ++ List.replicate (l.length - i) tZ).length = l.length := by simp only [List.length_append, List.length_map, List.length_take, List.length_replicate]; omega
    simp only [hT, hL, eA, Nat.beq, List.toArray, reduceAdd, reduceLT, reduceLeDiff, reduceToNat]
    refine fun _ => ⟨fun h => ?_, fun h => ?_⟩
    · simp only [decide_eq_true_eq] at h
      have hil : i < l.length := by omega
      have hg : ∀ d, (l.map turnS).getD i d = turnS (l.getD i []) := fun d => getIn turnS l i d [] hil
      have fs := fillSet turnO l tZ i [] hil
      simp only [hT, hL, hg, eA, Nat.beq, List.toArray, reduceAdd, reduceLT, reduceLeDiff, reduceToNat]
      (try unfold lim); repeat first | ((with_reducible refine And.intro ?_ ?_); (first | omega | exact ⟨by omega, by omega⟩ | rfl)) | intro _
      have el := el (l.getD i []) (hn i hil)
      simp only [turnS, turnO] at el fs
      simp only [turnS, hT, eA, Nat.beq, List.toArray, reduceAdd, reduceLT, reduceLeDiff, reduceToNat]
      (try unfold lim); repeat first | ((with_reducible refine And.intro ?_ ?_); (first | omega | exact ⟨by omega, by omega⟩ | rfl)) | intro _
      refine Fun.plain el rfl rfl rfl rfl ?_
      simp only [hT, hL, eA, Nat.beq, List.toArray, reduceAdd, reduceLT, reduceLeDiff, reduceToNat]
      (try unfold lim); repeat first | ((with_reducible refine And.intro ?_ ?_); (first | omega | exact ⟨by omega, by omega⟩ | rfl)) | intro _
      refine ⟨⟨i + 1, hil⟩, by simp only; omega, Le.of [] (Nat.zero_le _) ?_ ?_ ?_⟩
      · simp only [eL, eH, eG, leO, Nat.beq, reduceLT]
      · simp only [eL, eH, eG, leO, Nat.beq, reduceLT] <;> omega
      · simp only [fs, eL, eH, eG, leO, Nat.beq, reduceLT]
    · simp only [decide_eq_false_iff_not] at h
      exact fillAll turnO l _ i (by omega)
abbrev VPln := Int × Int × Int × List VCell × List VWay × List VSlot × List (List Int) × Unit
abbrev VPln.cells (p : VPln) := p.2.2.2.1
abbrev VPln.ways (p : VPln) := p.2.2.2.2.1
abbrev VPln.slots (p : VPln) := p.2.2.2.2.2.1
abbrev VPln.turns (p : VPln) := p.2.2.2.2.2.2.1
def plnS (p : VPln) : List AV := [.int .i64 p.1, .int .i64 p.2.1, .int .i64 p.2.2.1, .sl 5 (p.cells.map cellS) cZ, .sl 5 (p.ways.map wayS) wZ, .sl 2 (p.slots.map slotE) sZ, .sl 1 (p.turns.map turnS) tZ]
def plnO (p : VPln) : List AV := [.int .i64 p.1, .int .i64 p.2.1, .int .i64 p.2.2.1, .own 5 (p.cells.map cellO) cZ, .own 5 (p.ways.map wayO) wZ, .own 2 (p.slots.map slotE) sZ, .own 1 (p.turns.map turnO) tZ]
/-- No list in it is too long. -/
structure Sz (p : VPln) : Prop where
  c : p.cells.length ≤ 1048576
  cs : ∀ i, i < p.cells.length → (p.cells.getD i c0).2.2.2.1.length ≤ 1048576
  w : p.ways.length ≤ 1048576
  ws : ∀ i, i < p.ways.length → (p.ways.getD i w0).2.2.2.2.1.length ≤ 1048576
  s : p.slots.length ≤ 1048576
  t : p.turns.length ≤ 1048576
  ts : ∀ i, i < p.turns.length → (p.turns.getD i []).length ≤ 1048576
theorem TY_toPlnPlan {P : Program} (hP : P = Tryz.prog) : ((((zeroT P 43 = some (((.int .i64 0) :: ((.int .i64 0) :: ((.int .i64 0) :: (.nils :: (.nils :: (.nils :: (.nils :: []))))))))) ∧ ((fldT P 27 0 = some ((0, (false, 1)))) ∧ (tyT P 3 = some ((false, 1))))) ∧ ((fldT P 43 0 = some ((0, (false, 1)))) ∧ ((fldT P 27 1 = some ((1, (false, 1)))) ∧ (fldT P 43 1 = some ((1, (false, 1))))))) ∧ (((fldT P 27 2 = some ((2, (false, 1)))) ∧ ((fldT P 43 2 = some ((2, (false, 1)))) ∧ (fldT P 27 3 = some ((3, (false, 1)))))) ∧ ((tyT P 22 = some ((false, 1))) ∧ ((fldT P 43 3 = some ((3, (false, 1)))) ∧ (tyT P 39 = some ((false, 1))))))) ∧ ((((fldT P 27 4 = some ((4, (false, 1)))) ∧ ((tyT P 23 = some ((false, 1))) ∧ (fldT P 43 4 = some ((4, (false, 1)))))) ∧ ((tyT P 40 = some ((false, 1))) ∧ ((fldT P 27 5 = some ((5, (false, 1)))) ∧ (tyT P 24 = some ((false, 1)))))) ∧ (((fldT P 43 5 = some ((5, (false, 1)))) ∧ ((tyT P 41 = some ((false, 1))) ∧ (fldT P 27 6 = some ((6, (false, 1)))))) ∧ ((tyT P 25 = some ((false, 1))) ∧ ((fldT P 43 6 = some ((6, (false, 1)))) ∧ (tyT P 43 = some ((true, 7))))))) := by subst hP; refine ⟨⟨⟨⟨?_, ⟨?_, ?_⟩⟩, ⟨?_, ⟨?_, ?_⟩⟩⟩, ⟨⟨?_, ⟨?_, ?_⟩⟩, ⟨?_, ⟨?_, ?_⟩⟩⟩⟩, ⟨⟨⟨?_, ⟨?_, ?_⟩⟩, ⟨?_, ⟨?_, ?_⟩⟩⟩, ⟨⟨?_, ⟨?_, ?_⟩⟩, ⟨?_, ⟨?_, ?_⟩⟩⟩⟩⟩ <;> kernel_rfl
theorem toPlnPlan {P : Program} [Known P] (hP : P = Tryz.prog) (p : VPln) (h : Sz p) : Fun P 15 [.agg (plnS p)] (.agg (plnO p)) := by
  refine fun_of (fn := Tryz.f15) (hP ▸ Tryz.func15) (by kernel_rfl) (by kernel_rfl) (by kernel_rfl) (by kernel_rfl) ?_
  have hT := TY_toPlnPlan hP
  have e0 := @toPlnCellS P _ hP
  have e1 := @toPlnWayS P _ hP
  have e2 := @toPlnSlotS P _ hP
  have e3 := @toIntSS P _ hP
  clear hP
  intro hl
  clear hl
  simp only [plnS, plnO, Tryz.f15, hT, eA, Nat.beq, List.toArray, reduceAdd, reduceLT, reduceLeDiff, reduceToNat]
  refine Fun.plain (e0 _ _ h.c h.cs) rfl rfl rfl rfl ?_
  simp only [hT, eA, Nat.beq, List.toArray, reduceAdd, reduceLT, reduceLeDiff, reduceToNat]
  refine Fun.plain (e1 _ _ h.w h.ws) rfl rfl rfl rfl ?_
  simp only [hT, eA, Nat.beq, List.toArray, reduceAdd, reduceLT, reduceLeDiff, reduceToNat]
  refine Fun.plain (e2 _ h.s) rfl rfl rfl rfl ?_
  simp only [hT, eA, Nat.beq, List.toArray, reduceAdd, reduceLT, reduceLeDiff, reduceToNat]
  refine Fun.plain (e3 _ _ h.t h.ts) rfl rfl rfl rfl ?_
  simp only [hT, eA, Nat.beq, List.toArray, reduceAdd, reduceLT, reduceLeDiff, reduceToNat]
  try rfl
end Go.Proofs.YtjlmfcddbcoimaaGreat.C
