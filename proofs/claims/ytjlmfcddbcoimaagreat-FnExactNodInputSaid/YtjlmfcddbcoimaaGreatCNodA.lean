/- Nodes as data; the copies that the laws make of them. -/
import Derived.Test.YtjlmfcddbcoimaaGreatCPlnA
import Derived.Test.YtjlmfcddbcoimaaGreatCByA
set_option maxRecDepth 100000
set_option maxHeartbeats 4000000
set_option linter.unusedSimpArgs false
set_option linter.unusedVariables false
namespace Go.Proofs.YtjlmfcddbcoimaaGreat.C
open Go Go.Av Go.Proofs
open Nat (reduceAdd reduceLT reduceLeDiff reduceSub)
open Int (reduceToNat)
abbrev msgZ : List AV := [.nils]
def msgS (m : List UInt8) : List AV := [B m]
def msgO (m : List UInt8) : List AV := [BO m]
abbrev VSt := Int × List Int × List Int × Int × Unit
def stS (s : VSt) : List AV := [.int .i64 s.1, intsS s.2.1, intsS s.2.2.1, .int .i64 s.2.2.2.1]
def stO (s : VSt) : List AV := [.int .i64 s.1, intsO s.2.1, intsO s.2.2.1, .int .i64 s.2.2.2.1]
abbrev VCel := VSt × List UInt8 × Unit
abbrev celZ : List AV := [.int .i64 0, .nils, .nils, .int .i64 0, .nils]
abbrev cel0 : VCel := ((0, [], [], 0, ()), [], ())
def celS (c : VCel) : List AV := [.int .i64 c.1.1, intsS c.1.2.1, intsS c.1.2.2.1, .int .i64 c.1.2.2.2.1, B c.2.1]
def celO (c : VCel) : List AV := [.int .i64 c.1.1, intsO c.1.2.1, intsO c.1.2.2.1, .int .i64 c.1.2.2.2.1, BO c.2.1]
abbrev VBox := Int × List (List UInt8) × Unit
abbrev box0 : VBox := (0, [], ())
abbrev boxZ : List AV := [.int .i64 0, .nils]
def boxS (b : VBox) : List AV := [.int .i64 b.1, .sl 1 (b.2.1.map msgS) msgZ]
def boxO (b : VBox) : List AV := [.int .i64 b.1, .own 1 (b.2.1.map msgO) msgZ]
abbrev VOut := Int × Int × Int × Int × Unit
abbrev out0 : VOut := (0, 0, 0, 0, ())
abbrev outZ : List AV := [.int .i64 0, .int .i64 0, .int .i64 0, .int .i64 0]
def outE (x : VOut) : List AV := [.int .i64 x.1, .int .i64 x.2.1, .int .i64 x.2.2.1, .int .i64 x.2.2.2.1]
abbrev VInn := Int × Int × Int × Unit
abbrev inn0 : VInn := (0, 0, 0, ())
abbrev innZ : List AV := [.int .i64 0, .int .i64 0, .int .i64 0]
def innE (x : VInn) : List AV := [.int .i64 x.1, .int .i64 x.2.1, .int .i64 x.2.2.1]
abbrev VHrd := List Int × List Int × Unit
def hrdS (h : VHrd) : List AV := [intsS h.1, intsS h.2.1]
def hrdO (h : VHrd) : List AV := [intsO h.1, intsO h.2.1]
abbrev VNod := Bool × Int × Int × List VCel × List VBox × List VBox × List VOut × List VInn × VHrd × Unit
abbrev VNod.up (n : VNod) := n.1
abbrev VNod.boot (n : VNod) := n.2.1
abbrev VNod.hello (n : VNod) := n.2.2.1
abbrev VNod.cells (n : VNod) := n.2.2.2.1
abbrev VNod.out (n : VNod) := n.2.2.2.2.1
abbrev VNod.inn (n : VNod) := n.2.2.2.2.2.1
abbrev VNod.outs (n : VNod) := n.2.2.2.2.2.2.1
abbrev VNod.inns (n : VNod) := n.2.2.2.2.2.2.2.1
abbrev VNod.heard (n : VNod) := n.2.2.2.2.2.2.2.2.1
def nodS (n : VNod) : List AV := [.bool n.up, .int .i64 n.boot, .int .i64 n.hello, .sl 5 (n.cells.map celS) celZ, .sl 2 (n.out.map boxS) boxZ, .sl 2 (n.inn.map boxS) boxZ, .sl 4 (n.outs.map outE) outZ, .sl 3 (n.inns.map innE) innZ, intsS n.heard.1, intsS n.heard.2.1]
def nodO (n : VNod) : List AV := [.bool n.up, .int .i64 n.boot, .int .i64 n.hello, .own 5 (n.cells.map celO) celZ, .own 2 (n.out.map boxO) boxZ, .own 2 (n.inn.map boxO) boxZ, .own 4 (n.outs.map outE) outZ, .own 3 (n.inns.map innE) innZ, intsO n.heard.1, intsO n.heard.2.1]
theorem rdR_msg (l : List (List UInt8)) : rdR (l.map msgO) = l.map msgS := rdR_map2 msgO msgS (fun c => by simp only [msgO, msgS, rdL, AV.rd, rdR_byt]) l
theorem rdR_cel (l : List VCel) : rdR (l.map celO) = l.map celS := rdR_map2 celO celS (fun c => by simp only [celO, celS, rdL, AV.rd, rdR_byt, rdR_int]) l
theorem rdR_box (l : List VBox) : rdR (l.map boxO) = l.map boxS := rdR_map2 boxO boxS (fun c => by simp only [boxO, boxS, rdL, AV.rd, rdR_msg]) l
theorem rdR_out (l : List VOut) : rdR (l.map outE) = l.map outE := rdR_map outE (fun _ => rfl) l
theorem rdR_inn (l : List VInn) : rdR (l.map innE) = l.map innE := rdR_map innE (fun _ => rfl) l
/-- No list in it is too long. -/
structure SzN (n : VNod) : Prop where
  c : n.cells.length ≤ 1048576
  c1 : ∀ i, i < n.cells.length → (n.cells.getD i cel0).1.2.1.length ≤ 1048576
  c2 : ∀ i, i < n.cells.length → (n.cells.getD i cel0).1.2.2.1.length ≤ 1048576
  o : n.out.length ≤ 1048576
  o1 : ∀ i, i < n.out.length → (n.out.getD i box0).2.1.length ≤ 1048576
  i : n.inn.length ≤ 1048576
  i1 : ∀ i, i < n.inn.length → (n.inn.getD i box0).2.1.length ≤ 1048576
  u : n.outs.length ≤ 1048576
  v : n.inns.length ≤ 1048576
  b : n.heard.1.length ≤ 1048576
  s : n.heard.2.1.length ≤ 1048576
theorem TY_toByteSS {P : Program} (hP : P = Tryz.prog) : ((lkT P 79 = 1) ∧ (mkT P 79 = some ((1, (24, (.nils :: [])))))) ∧ ((elT P 79 = some ((false, (1, 24)))) ∧ (tyT P 149 = some ((false, 1)))) := by subst hP; refine ⟨⟨?_, ?_⟩, ⟨?_, ?_⟩⟩ <;> kernel_rfl
theorem toByteSS {P : Program} [Known P] (hP : P = Tryz.prog) (l : List (List UInt8)) (d : List AV) (hm : l.length ≤ 1048576) : Fun P 132 [.sl 1 (l.map msgS) d] (.own 1 (l.map msgO) msgZ) := by
  refine fun_of (fn := Tryz.f132) (hP ▸ Tryz.func132) (by kernel_rfl) (by kernel_rfl) (by kernel_rfl) (by kernel_rfl) ?_
  have hT := TY_toByteSS hP
  have el := @toByteS P _ hP
  clear hP
  intro hl
  simp only [limL, limA, and_true, List.length_map] at hl
  simp only [Tryz.f132, hT, eA, Nat.beq, List.toArray, reduceAdd, reduceLT, reduceLeDiff, reduceToNat]
  unfold lim at hl
  have hl' := hl
  (try unfold lim); repeat first | ((with_reducible refine And.intro ?_ ?_); (first | omega | exact ⟨by omega, by omega⟩ | rfl)) | intro _
  refine wpc_loop {i : Nat // i ≤ l.length} (fun i => ⟨[(0, .sl 1 (l.map msgS) d), (3, .os 0), (4, .int .i64 i.1)], [(0, ⟨1, (l.take i.1).map msgO ++ List.replicate (l.length - i.1) msgZ, msgZ, false⟩)], 1⟩) (fun i => l.length - i.1) ⟨0, Nat.zero_le _⟩ (Le.of [] (Nat.zero_le _) ?_ ?_ ?_) ?_
  · simp only [eL, eH, eG, leO, Nat.beq, reduceLT]
  · simp only [eL, eH, eG, leO, Nat.beq, reduceLT] <;> simp
  · simp only [eL, eH, eG, leO, Nat.beq, reduceLT] <;> simp
  · rintro ⟨i, hi⟩
    have hL : (List.map msgO (List.take i l) ++ List.replicate (l.length - i) msgZ).length = l.length := by simp only [List.length_append, List.length_map, List.length_take, List.length_replicate]; omega
    simp only [hT, hL, eA, Nat.beq, List.toArray, reduceAdd, reduceLT, reduceLeDiff, reduceToNat]
    refine fun _ => ⟨fun h => ?_, fun h => ?_⟩
    · simp only [decide_eq_true_eq] at h
      have hil : i < l.length := by omega
      have hg : ∀ d, (l.map msgS).getD i d = msgS (l.getD i []) := fun d => getIn msgS l i d [] hil
      have fs := fillSet msgO l msgZ i [] hil
      simp only [hT, hL, hg, eA, Nat.beq, List.toArray, reduceAdd, reduceLT, reduceLeDiff, reduceToNat]
      (try unfold lim); repeat first | ((with_reducible refine And.intro ?_ ?_); (first | omega | exact ⟨by omega, by omega⟩ | rfl)) | intro _
      have el := el (l.getD i [])
      simp only [msgS, msgO] at el fs
      simp only [msgS, hT, eA, Nat.beq, List.toArray, reduceAdd, reduceLT, reduceLeDiff, reduceToNat]
      (try unfold lim); repeat first | ((with_reducible refine And.intro ?_ ?_); (first | omega | exact ⟨by omega, by omega⟩ | rfl)) | intro _
      refine Fun.plain el rfl rfl rfl rfl ?_
      simp only [hT, hL, eA, Nat.beq, List.toArray, reduceAdd, reduceLT, reduceLeDiff, reduceToNat]
      (try unfold lim); repeat first | ((with_reducible refine And.intro ?_ ?_); (first | omega | exact ⟨by omega, by omega⟩ | rfl)) | intro _
      refine ⟨⟨i + 1, hil⟩, by simp only; omega, Le.of [] (Nat.zero_le _) ?_ ?_ ?_⟩
      · simp only [eL, eH, eG, leO, Nat.beq, reduceLT]
      · simp only [eL, eH, eG, leO, Nat.beq, reduceLT] <;> omega
      · simp only [fs, eL, eH, eG, leO, Nat.beq, reduceLT]
    · simp only [decide_eq_false_iff_not] at h
      exact fillAll msgO l _ i (by omega)
theorem TY_toVmState {P : Program} (hP : P = Tryz.prog) : (((zeroT P 148 = some (((.int .i64 0) :: (.nils :: (.nils :: ((.int .i64 0) :: [])))))) ∧ ((fldT P 225 0 = some ((0, (false, 1)))) ∧ (tyT P 3 = some ((false, 1))))) ∧ ((fldT P 148 0 = some ((0, (false, 1)))) ∧ ((fldT P 225 1 = some ((1, (false, 1)))) ∧ (tyT P 33 = some ((false, 1)))))) ∧ (((fldT P 148 1 = some ((1, (false, 1)))) ∧ ((fldT P 225 2 = some ((2, (false, 1)))) ∧ (fldT P 148 2 = some ((2, (false, 1)))))) ∧ ((fldT P 225 3 = some ((3, (false, 1)))) ∧ ((fldT P 148 3 = some ((3, (false, 1)))) ∧ (tyT P 148 = some ((true, 4)))))) := by subst hP; refine ⟨⟨⟨?_, ⟨?_, ?_⟩⟩, ⟨?_, ⟨?_, ?_⟩⟩⟩, ⟨⟨?_, ⟨?_, ?_⟩⟩, ⟨?_, ⟨?_, ?_⟩⟩⟩⟩ <;> kernel_rfl
theorem toVmState {P : Program} [Known P] (hP : P = Tryz.prog) (s : VSt) (h1 : s.2.1.length ≤ 1048576) (h2 : s.2.2.1.length ≤ 1048576) : Fun P 259 [.agg (stS s)] (.agg (stO s)) := by
  refine fun_of (fn := Tryz.f259) (hP ▸ Tryz.func259) (by kernel_rfl) (by kernel_rfl) (by kernel_rfl) (by kernel_rfl) ?_
  have hT := TY_toVmState hP
  have e0 := @toIntS P _ hP
  try simp only [stS, stO, hrdS, hrdO] at e0
  have e1 := @toIntS P _ hP
  try simp only [stS, stO, hrdS, hrdO] at e1
  clear hP
  intro hl
  clear hl
  simp only [stS, stO, Tryz.f259, hT, eA, Nat.beq, List.toArray, reduceAdd, reduceLT, reduceLeDiff, reduceToNat]
  refine Fun.plain (e0 _ h1) rfl rfl rfl rfl ?_
  simp only [hT, eA, Nat.beq, List.toArray, reduceAdd, reduceLT, reduceLeDiff, reduceToNat]
  refine Fun.plain (e1 _ h2) rfl rfl rfl rfl ?_
  simp only [hT, eA, Nat.beq, List.toArray, reduceAdd, reduceLT, reduceLeDiff, reduceToNat]
  try rfl
theorem TY_toCelCell {P : Program} (hP : P = Tryz.prog) : (((zeroT P 151 = some (((.int .i64 0) :: (.nils :: (.nils :: ((.int .i64 0) :: (.nils :: []))))))) ∧ (fldT P 227 0 = some ((0, (true, 4))))) ∧ ((tyT P 225 = some ((true, 4))) ∧ (fldT P 151 0 = some ((0, (true, 4)))))) ∧ (((tyT P 148 = some ((true, 4))) ∧ (fldT P 227 1 = some ((4, (false, 1))))) ∧ ((tyT P 149 = some ((false, 1))) ∧ ((fldT P 151 1 = some ((4, (false, 1)))) ∧ (tyT P 151 = some ((true, 5)))))) := by subst hP; refine ⟨⟨⟨?_, ?_⟩, ⟨?_, ?_⟩⟩, ⟨⟨?_, ?_⟩, ⟨?_, ⟨?_, ?_⟩⟩⟩⟩ <;> kernel_rfl
theorem toCelCell {P : Program} [Known P] (hP : P = Tryz.prog) (c : VCel) (h1 : c.1.2.1.length ≤ 1048576) (h2 : c.1.2.2.1.length ≤ 1048576) : Fun P 182 [.agg (celS c)] (.agg (celO c)) := by
  refine fun_of (fn := Tryz.f182) (hP ▸ Tryz.func182) (by kernel_rfl) (by kernel_rfl) (by kernel_rfl) (by kernel_rfl) ?_
  have hT := TY_toCelCell hP
  have e0 := @toVmState P _ hP
  try simp only [stS, stO, hrdS, hrdO] at e0
  have e1 := @toByteS P _ hP
  try simp only [stS, stO, hrdS, hrdO] at e1
  clear hP
  intro hl
  clear hl
  simp only [celS, celO, Tryz.f182, hT, eA, Nat.beq, List.toArray, reduceAdd, reduceLT, reduceLeDiff, reduceToNat]
  refine Fun.plain (e0 c.1 h1 h2) rfl rfl rfl rfl ?_
  simp only [hT, eA, Nat.beq, List.toArray, reduceAdd, reduceLT, reduceLeDiff, reduceToNat]
  refine Fun.plain (e1 _) rfl rfl rfl rfl ?_
  simp only [hT, eA, Nat.beq, List.toArray, reduceAdd, reduceLT, reduceLeDiff, reduceToNat]
  try rfl
theorem TY_toCelCellS {P : Program} (hP : P = Tryz.prog) : ((lkT P 50 = 1) ∧ ((mkT P 29 = some ((5, (88, ((.int .i64 0) :: (.nils :: (.nils :: ((.int .i64 0) :: (.nils :: []))))))))) ∧ (elT P 50 = some ((true, (5, 88)))))) ∧ ((tyT P 227 = some ((true, 5))) ∧ ((elT P 29 = some ((true, (5, 88)))) ∧ (tyT P 151 = some ((true, 5))))) := by subst hP; refine ⟨⟨?_, ⟨?_, ?_⟩⟩, ⟨?_, ⟨?_, ?_⟩⟩⟩ <;> kernel_rfl
theorem toCelCellS {P : Program} [Known P] (hP : P = Tryz.prog) (l : List (VCel)) (d : List AV) (hm : l.length ≤ 1048576) (hn0 : ∀ i, i < l.length → ((l.getD i cel0).1.2.1).length ≤ 1048576) (hn1 : ∀ i, i < l.length → ((l.getD i cel0).1.2.2.1).length ≤ 1048576) : Fun P 93 [.sl 5 (l.map celS) d] (.own 5 (l.map celO) celZ) := by
  refine fun_of (fn := Tryz.f93) (hP ▸ Tryz.func93) (by kernel_rfl) (by kernel_rfl) (by kernel_rfl) (by kernel_rfl) ?_
  have hT := TY_toCelCellS hP
  have el := @toCelCell P _ hP
  clear hP
  intro hl
  simp only [limL, limA, and_true, List.length_map] at hl
  simp only [Tryz.f93, hT, eA, Nat.beq, List.toArray, reduceAdd, reduceLT, reduceLeDiff, reduceToNat]
  unfold lim at hl
  have hl' := hl
  (try unfold lim); repeat first | ((with_reducible refine And.intro ?_ ?_); (first | omega | exact ⟨by omega, by omega⟩ | rfl)) | intro _
  refine wpc_loop {i : Nat // i ≤ l.length} (fun i => ⟨[(0, .sl 5 (l.map celS) d), (3, .os 0), (4, .int .i64 i.1)], [(0, ⟨5, (l.take i.1).map celO ++ List.replicate (l.length - i.1) celZ, celZ, false⟩)], 1⟩) (fun i => l.length - i.1) ⟨0, Nat.zero_le _⟩ (Le.of [] (Nat.zero_le _) ?_ ?_ ?_) ?_
  · simp only [eL, eH, eG, leO, Nat.beq, reduceLT]
  · simp only [eL, eH, eG, leO, Nat.beq, reduceLT] <;> simp
  · simp only [eL, eH, eG, leO, Nat.beq, reduceLT] <;> simp
  · rintro ⟨i, hi⟩
    have hL : (List.map celO (List.take i l) ++ List.replicate (l.length - i) celZ).length = l.length := by simp only [List.length_append, List.length_map, List.length_take, List.length_replicate]; omega
    simp only [hT, hL, eA, Nat.beq, List.toArray, reduceAdd, reduceLT, reduceLeDiff, reduceToNat]
    refine fun _ => ⟨fun h => ?_, fun h => ?_⟩
    · simp only [decide_eq_true_eq] at h
      have hil : i < l.length := by omega
      have hg : ∀ d, (l.map celS).getD i d = celS (l.getD i cel0) := fun d => getIn celS l i d cel0 hil
      have fs := fillSet celO l celZ i cel0 hil
      simp only [hT, hL, hg, eA, Nat.beq, List.toArray, reduceAdd, reduceLT, reduceLeDiff, reduceToNat]
      (try unfold lim); repeat first | ((with_reducible refine And.intro ?_ ?_); (first | omega | exact ⟨by omega, by omega⟩ | rfl)) | intro _
      have el := el (l.getD i cel0) (hn0 i hil) (hn1 i hil)
      simp only [celS, celO] at el fs
      simp only [celS, hT, eA, Nat.beq, List.toArray, reduceAdd, reduceLT, reduceLeDiff, reduceToNat]
      (try unfold lim); repeat first | ((with_reducible refine And.intro ?_ ?_); (first | omega | exact ⟨by omega, by omega⟩ | rfl)) | intro _
      refine Fun.plain el rfl rfl rfl rfl ?_
      simp only [hT, hL, eA, Nat.beq, List.toArray, reduceAdd, reduceLT, reduceLeDiff, reduceToNat]
      (try unfold lim); repeat first | ((with_reducible refine And.intro ?_ ?_); (first | omega | exact ⟨by omega, by omega⟩ | rfl)) | intro _
      refine ⟨⟨i + 1, hil⟩, by simp only; omega, Le.of [] (Nat.zero_le _) ?_ ?_ ?_⟩
      · simp only [eL, eH, eG, leO, Nat.beq, reduceLT]
      · simp only [eL, eH, eG, leO, Nat.beq, reduceLT] <;> omega
      · simp only [fs, eL, eH, eG, leO, Nat.beq, reduceLT]
    · simp only [decide_eq_false_iff_not] at h
      exact fillAll celO l _ i (by omega)
theorem TY_toBoxBox {P : Program} (hP : P = Tryz.prog) : (((zeroT P 163 = some (((.int .i64 0) :: (.nils :: [])))) ∧ (fldT P 229 0 = some ((0, (false, 1))))) ∧ ((tyT P 3 = some ((false, 1))) ∧ (fldT P 163 0 = some ((0, (false, 1)))))) ∧ (((fldT P 229 1 = some ((1, (false, 1)))) ∧ (tyT P 79 = some ((false, 1)))) ∧ ((fldT P 163 1 = some ((1, (false, 1)))) ∧ (tyT P 163 = some ((true, 2))))) := by subst hP; refine ⟨⟨⟨?_, ?_⟩, ⟨?_, ?_⟩⟩, ⟨⟨?_, ?_⟩, ⟨?_, ?_⟩⟩⟩ <;> kernel_rfl
theorem toBoxBox {P : Program} [Known P] (hP : P = Tryz.prog) (b : VBox) (h1 : b.2.1.length ≤ 1048576) : Fun P 183 [.agg (boxS b)] (.agg (boxO b)) := by
  refine fun_of (fn := Tryz.f183) (hP ▸ Tryz.func183) (by kernel_rfl) (by kernel_rfl) (by kernel_rfl) (by kernel_rfl) ?_
  have hT := TY_toBoxBox hP
  have e0 := @toByteSS P _ hP
  try simp only [stS, stO, hrdS, hrdO] at e0
  clear hP
  intro hl
  clear hl
  simp only [boxS, boxO, Tryz.f183, hT, eA, Nat.beq, List.toArray, reduceAdd, reduceLT, reduceLeDiff, reduceToNat]
  refine Fun.plain (e0 _ _ h1) rfl rfl rfl rfl ?_
  simp only [hT, eA, Nat.beq, List.toArray, reduceAdd, reduceLT, reduceLeDiff, reduceToNat]
  try rfl
theorem TY_toBoxBoxS {P : Program} (hP : P = Tryz.prog) : ((lkT P 51 = 1) ∧ ((mkT P 30 = some ((2, (32, ((.int .i64 0) :: (.nils :: [])))))) ∧ (elT P 51 = some ((true, (2, 32)))))) ∧ ((tyT P 229 = some ((true, 2))) ∧ ((elT P 30 = some ((true, (2, 32)))) ∧ (tyT P 163 = some ((true, 2))))) := by subst hP; refine ⟨⟨?_, ⟨?_, ?_⟩⟩, ⟨?_, ⟨?_, ?_⟩⟩⟩ <;> kernel_rfl
theorem toBoxBoxS {P : Program} [Known P] (hP : P = Tryz.prog) (l : List (VBox)) (d : List AV) (hm : l.length ≤ 1048576) (hn0 : ∀ i, i < l.length → ((l.getD i box0).2.1).length ≤ 1048576) : Fun P 94 [.sl 2 (l.map boxS) d] (.own 2 (l.map boxO) boxZ) := by
  refine fun_of (fn := Tryz.f94) (hP ▸ Tryz.func94) (by kernel_rfl) (by kernel_rfl) (by kernel_rfl) (by kernel_rfl) ?_
  have hT := TY_toBoxBoxS hP
  have el := @toBoxBox P _ hP
  clear hP
  intro hl
  simp only [limL, limA, and_true, List.length_map] at hl
  simp only [Tryz.f94, hT, eA, Nat.beq, List.toArray, reduceAdd, reduceLT, reduceLeDiff, reduceToNat]
  unfold lim at hl
  have hl' := hl
  (try unfold lim); repeat first | ((with_reducible refine And.intro ?_ ?_); (first | omega | exact ⟨by omega, by omega⟩ | rfl)) | intro _
  refine wpc_loop {i : Nat // i ≤ l.length} (fun i => ⟨[(0, .sl 2 (l.map boxS) d), (3, .os 0), (4, .int .i64 i.1)], [(0, ⟨2, (l.take i.1).map boxO ++ List.replicate (l.length - i.1) boxZ, boxZ, false⟩)], 1⟩) (fun i => l.length - i.1) ⟨0, Nat.zero_le _⟩ (Le.of [] (Nat.zero_le _) ?_ ?_ ?_) ?_
  · simp only [eL, eH, eG, leO, Nat.beq, reduceLT]
  · simp only [eL, eH, eG, leO, Nat.beq, reduceLT] <;> simp
  · simp only [eL, eH, eG, leO, Nat.beq, reduceLT] <;> simp
  · rintro ⟨i, hi⟩
    have hL : (List.map boxO (List.take i l) ++ List.replicate (l.length - i) boxZ).length = l.length := by simp only [List.length_append, List.length_map, List.length_take, List.length_replicate]; omega
    simp only [hT, hL, eA, Nat.beq, List.toArray, reduceAdd, reduceLT, reduceLeDiff, reduceToNat]
    refine fun _ => ⟨fun h => ?_, fun h => ?_⟩
    · simp only [decide_eq_true_eq] at h
      have hil : i < l.length := by omega
      have hg : ∀ d, (l.map boxS).getD i d = boxS (l.getD i box0) := fun d => getIn boxS l i d box0 hil
      have fs := fillSet boxO l boxZ i box0 hil
      simp only [hT, hL, hg, eA, Nat.beq, List.toArray, reduceAdd, reduceLT, reduceLeDiff, reduceToNat]
      (try unfold lim); repeat first | ((with_reducible refine And.intro ?_ ?_); (first | omega | exact ⟨by omega, by omega⟩ | rfl)) | intro _
      have el := el (l.getD i box0) (hn0 i hil)
      simp only [boxS, boxO] at el fs
      simp only [boxS, hT, eA, Nat.beq, List.toArray, reduceAdd, reduceLT, reduceLeDiff, reduceToNat]
      (try unfold lim); repeat first | ((with_reducible refine And.intro ?_ ?_); (first | omega | exact ⟨by omega, by omega⟩ | rfl)) | intro _
      refine Fun.plain el rfl rfl rfl rfl ?_
      simp only [hT, hL, eA, Nat.beq, List.toArray, reduceAdd, reduceLT, reduceLeDiff, reduceToNat]
      (try unfold lim); repeat first | ((with_reducible refine And.intro ?_ ?_); (first | omega | exact ⟨by omega, by omega⟩ | rfl)) | intro _
      refine ⟨⟨i + 1, hil⟩, by simp only; omega, Le.of [] (Nat.zero_le _) ?_ ?_ ?_⟩
      · simp only [eL, eH, eG, leO, Nat.beq, reduceLT]
      · simp only [eL, eH, eG, leO, Nat.beq, reduceLT] <;> omega
      · simp only [fs, eL, eH, eG, leO, Nat.beq, reduceLT]
    · simp only [decide_eq_false_iff_not] at h
      exact fillAll boxO l _ i (by omega)
theorem TY_toOutOut {P : Program} (hP : P = Tryz.prog) : (((zeroT P 201 = some (((.int .i64 0) :: ((.int .i64 0) :: ((.int .i64 0) :: ((.int .i64 0) :: [])))))) ∧ (fldT P 234 0 = some ((0, (false, 1))))) ∧ ((tyT P 3 = some ((false, 1))) ∧ ((fldT P 201 0 = some ((0, (false, 1)))) ∧ (fldT P 234 1 = some ((1, (false, 1))))))) ∧ (((fldT P 201 1 = some ((1, (false, 1)))) ∧ ((fldT P 234 2 = some ((2, (false, 1)))) ∧ (fldT P 201 2 = some ((2, (false, 1)))))) ∧ ((fldT P 234 3 = some ((3, (false, 1)))) ∧ ((fldT P 201 3 = some ((3, (false, 1)))) ∧ (tyT P 201 = some ((true, 4)))))) := by subst hP; refine ⟨⟨⟨?_, ?_⟩, ⟨?_, ⟨?_, ?_⟩⟩⟩, ⟨⟨?_, ⟨?_, ?_⟩⟩, ⟨?_, ⟨?_, ?_⟩⟩⟩⟩ <;> kernel_rfl
theorem toOutOut {P : Program} [Known P] (hP : P = Tryz.prog) (r : VOut) : Fun P 184 [.agg (outE r)] (.agg (outE r)) := by
  refine fun_of (fn := Tryz.f184) (hP ▸ Tryz.func184) (by kernel_rfl) (by kernel_rfl) (by kernel_rfl) (by kernel_rfl) ?_
  have hT := TY_toOutOut hP
  clear hP
  intro hl
  clear hl
  simp only [outE, Tryz.f184, hT, eA, Nat.beq, List.toArray, reduceAdd, reduceLT, reduceLeDiff, reduceToNat]
theorem TY_toOutOutS {P : Program} (hP : P = Tryz.prog) : ((lkT P 52 = 1) ∧ ((mkT P 31 = some ((4, (32, ((.int .i64 0) :: ((.int .i64 0) :: ((.int .i64 0) :: ((.int .i64 0) :: [])))))))) ∧ (elT P 52 = some ((true, (4, 32)))))) ∧ ((tyT P 234 = some ((true, 4))) ∧ ((elT P 31 = some ((true, (4, 32)))) ∧ (tyT P 201 = some ((true, 4))))) := by subst hP; refine ⟨⟨?_, ⟨?_, ?_⟩⟩, ⟨?_, ⟨?_, ?_⟩⟩⟩ <;> kernel_rfl
theorem toOutOutS {P : Program} [Known P] (hP : P = Tryz.prog) (l : List (VOut)) (hm : l.length ≤ 1048576) : Fun P 95 [.sl 4 (l.map outE) outZ] (.own 4 (l.map outE) outZ) := by
  refine fun_of (fn := Tryz.f95) (hP ▸ Tryz.func95) (by kernel_rfl) (by kernel_rfl) (by kernel_rfl) (by kernel_rfl) ?_
  have hT := TY_toOutOutS hP
  have el := @toOutOut P _ hP
  clear hP
  intro hl
  simp only [limL, limA, and_true, List.length_map] at hl
  simp only [Tryz.f95, hT, eA, Nat.beq, List.toArray, reduceAdd, reduceLT, reduceLeDiff, reduceToNat]
  unfold lim at hl
  have hl' := hl
  (try unfold lim); repeat first | ((with_reducible refine And.intro ?_ ?_); (first | omega | exact ⟨by omega, by omega⟩ | rfl)) | intro _
  refine wpc_loop {i : Nat // i ≤ l.length} (fun i => ⟨[(0, .sl 4 (l.map outE) outZ), (3, .os 0), (4, .int .i64 i.1)], [(0, ⟨4, (l.take i.1).map outE ++ List.replicate (l.length - i.1) outZ, outZ, false⟩)], 1⟩) (fun i => l.length - i.1) ⟨0, Nat.zero_le _⟩ (Le.of [] (Nat.zero_le _) ?_ ?_ ?_) ?_
  · simp only [eL, eH, eG, leO, Nat.beq, reduceLT]
  · simp only [eL, eH, eG, leO, Nat.beq, reduceLT] <;> simp
  · simp only [eL, eH, eG, leO, Nat.beq, reduceLT] <;> simp
  · rintro ⟨i, hi⟩
    have hL : (List.map outE (List.take i l) ++ List.replicate (l.length - i) outZ).length = l.length := by simp only [List.length_append, List.length_map, List.length_take, List.length_replicate]; omega
    simp only [hT, hL, eA, Nat.beq, List.toArray, reduceAdd, reduceLT, reduceLeDiff, reduceToNat]
    refine fun _ => ⟨fun h => ?_, fun h => ?_⟩
    · simp only [decide_eq_true_eq] at h
      have hil : i < l.length := by omega
      have hg : ∀ d, (l.map outE).getD i d = outE (l.getD i out0) := fun d => getIn outE l i d out0 hil
      have fs := fillSet outE l outZ i out0 hil
      simp only [hT, hL, hg, eA, Nat.beq, List.toArray, reduceAdd, reduceLT, reduceLeDiff, reduceToNat]
      (try unfold lim); repeat first | ((with_reducible refine And.intro ?_ ?_); (first | omega | exact ⟨by omega, by omega⟩ | rfl)) | intro _
      have el := el (l.getD i out0)
      simp only [outE, outE] at el fs
      simp only [outE, hT, eA, Nat.beq, List.toArray, reduceAdd, reduceLT, reduceLeDiff, reduceToNat]
      (try unfold lim); repeat first | ((with_reducible refine And.intro ?_ ?_); (first | omega | exact ⟨by omega, by omega⟩ | rfl)) | intro _
      refine Fun.plain el rfl rfl rfl rfl ?_
      simp only [hT, hL, eA, Nat.beq, List.toArray, reduceAdd, reduceLT, reduceLeDiff, reduceToNat]
      (try unfold lim); repeat first | ((with_reducible refine And.intro ?_ ?_); (first | omega | exact ⟨by omega, by omega⟩ | rfl)) | intro _
      refine ⟨⟨i + 1, hil⟩, by simp only; omega, Le.of [] (Nat.zero_le _) ?_ ?_ ?_⟩
      · simp only [eL, eH, eG, leO, Nat.beq, reduceLT]
      · simp only [eL, eH, eG, leO, Nat.beq, reduceLT] <;> omega
      · simp only [fs, eL, eH, eG, leO, Nat.beq, reduceLT]
    · simp only [decide_eq_false_iff_not] at h
      exact fillAll outE l _ i (by omega)
theorem TY_toInIn {P : Program} (hP : P = Tryz.prog) : (((zeroT P 204 = some (((.int .i64 0) :: ((.int .i64 0) :: ((.int .i64 0) :: []))))) ∧ (fldT P 236 0 = some ((0, (false, 1))))) ∧ ((tyT P 3 = some ((false, 1))) ∧ (fldT P 204 0 = some ((0, (false, 1)))))) ∧ (((fldT P 236 1 = some ((1, (false, 1)))) ∧ (fldT P 204 1 = some ((1, (false, 1))))) ∧ ((fldT P 236 2 = some ((2, (false, 1)))) ∧ ((fldT P 204 2 = some ((2, (false, 1)))) ∧ (tyT P 204 = some ((true, 3)))))) := by subst hP; refine ⟨⟨⟨?_, ?_⟩, ⟨?_, ?_⟩⟩, ⟨⟨?_, ?_⟩, ⟨?_, ⟨?_, ?_⟩⟩⟩⟩ <;> kernel_rfl
theorem toInIn {P : Program} [Known P] (hP : P = Tryz.prog) (r : VInn) : Fun P 185 [.agg (innE r)] (.agg (innE r)) := by
  refine fun_of (fn := Tryz.f185) (hP ▸ Tryz.func185) (by kernel_rfl) (by kernel_rfl) (by kernel_rfl) (by kernel_rfl) ?_
  have hT := TY_toInIn hP
  clear hP
  intro hl
  clear hl
  simp only [innE, Tryz.f185, hT, eA, Nat.beq, List.toArray, reduceAdd, reduceLT, reduceLeDiff, reduceToNat]
theorem TY_toInInS {P : Program} (hP : P = Tryz.prog) : ((lkT P 53 = 1) ∧ ((mkT P 32 = some ((3, (24, ((.int .i64 0) :: ((.int .i64 0) :: ((.int .i64 0) :: []))))))) ∧ (elT P 53 = some ((true, (3, 24)))))) ∧ ((tyT P 236 = some ((true, 3))) ∧ ((elT P 32 = some ((true, (3, 24)))) ∧ (tyT P 204 = some ((true, 3))))) := by subst hP; refine ⟨⟨?_, ⟨?_, ?_⟩⟩, ⟨?_, ⟨?_, ?_⟩⟩⟩ <;> kernel_rfl
theorem toInInS {P : Program} [Known P] (hP : P = Tryz.prog) (l : List (VInn)) (hm : l.length ≤ 1048576) : Fun P 96 [.sl 3 (l.map innE) innZ] (.own 3 (l.map innE) innZ) := by
  refine fun_of (fn := Tryz.f96) (hP ▸ Tryz.func96) (by kernel_rfl) (by kernel_rfl) (by kernel_rfl) (by kernel_rfl) ?_
  have hT := TY_toInInS hP
  have el := @toInIn P _ hP
  clear hP
  intro hl
  simp only [limL, limA, and_true, List.length_map] at hl
  simp only [Tryz.f96, hT, eA, Nat.beq, List.toArray, reduceAdd, reduceLT, reduceLeDiff, reduceToNat]
  unfold lim at hl
  have hl' := hl
  (try unfold lim); repeat first | ((with_reducible refine And.intro ?_ ?_); (first | omega | exact ⟨by omega, by omega⟩ | rfl)) | intro _
  refine wpc_loop {i : Nat // i ≤ l.length} (fun i => ⟨[(0, .sl 3 (l.map innE) innZ), (3, .os 0), (4, .int .i64 i.1)], [(0, ⟨3, (l.take i.1).map innE ++ List.replicate (l.length - i.1) innZ, innZ, false⟩)], 1⟩) (fun i => l.length - i.1) ⟨0, Nat.zero_le _⟩ (Le.of [] (Nat.zero_le _) ?_ ?_ ?_) ?_
  · simp only [eL, eH, eG, leO, Nat.beq, reduceLT]
  · simp only [eL, eH, eG, leO, Nat.beq, reduceLT] <;> simp
  · simp only [eL, eH, eG, leO, Nat.beq, reduceLT] <;> simp
  · rintro ⟨i, hi⟩
    have hL : (List.map innE (List.take i l) ++ List.replicate (l.length - i) innZ).length = l.length := by simp only [List.length_append, List.length_map, List.length_take, List.length_replicate]; omega
    simp only [hT, hL, eA, Nat.beq, List.toArray, reduceAdd, reduceLT, reduceLeDiff, reduceToNat]
    refine fun _ => ⟨fun h => ?_, fun h => ?_⟩
    · simp only [decide_eq_true_eq] at h
      have hil : i < l.length := by omega
      have hg : ∀ d, (l.map innE).getD i d = innE (l.getD i inn0) := fun d => getIn innE l i d inn0 hil
      have fs := fillSet innE l innZ i inn0 hil
      simp only [hT, hL, hg, eA, Nat.beq, List.toArray, reduceAdd, reduceLT, reduceLeDiff, reduceToNat]
      (try unfold lim); repeat first | ((with_reducible refine And.intro ?_ ?_); (first | omega | exact ⟨by omega, by omega⟩ | rfl)) | intro _
      have el := el (l.getD i inn0)
      simp only [innE, innE] at el fs
      simp only [innE, hT, eA, Nat.beq, List.toArray, reduceAdd, reduceLT, reduceLeDiff, reduceToNat]
      (try unfold lim); repeat first | ((with_reducible refine And.intro ?_ ?_); (first | omega | exact ⟨by omega, by omega⟩ | rfl)) | intro _
      refine Fun.plain el rfl rfl rfl rfl ?_
      simp only [hT, hL, eA, Nat.beq, List.toArray, reduceAdd, reduceLT, reduceLeDiff, reduceToNat]
      (try unfold lim); repeat first | ((with_reducible refine And.intro ?_ ?_); (first | omega | exact ⟨by omega, by omega⟩ | rfl)) | intro _
      refine ⟨⟨i + 1, hil⟩, by simp only; omega, Le.of [] (Nat.zero_le _) ?_ ?_ ?_⟩
      · simp only [eL, eH, eG, leO, Nat.beq, reduceLT]
      · simp only [eL, eH, eG, leO, Nat.beq, reduceLT] <;> omega
      · simp only [fs, eL, eH, eG, leO, Nat.beq, reduceLT]
    · simp only [decide_eq_false_iff_not] at h
      exact fillAll innE l _ i (by omega)
theorem TY_toHrdBook {P : Program} (hP : P = Tryz.prog) : ((zeroT P 35 = some ((.nils :: (.nils :: [])))) ∧ ((fldT P 54 0 = some ((0, (false, 1)))) ∧ (tyT P 33 = some ((false, 1))))) ∧ (((fldT P 35 0 = some ((0, (false, 1)))) ∧ (fldT P 54 1 = some ((1, (false, 1))))) ∧ ((fldT P 35 1 = some ((1, (false, 1)))) ∧ (tyT P 35 = some ((true, 2))))) := by subst hP; refine ⟨⟨?_, ⟨?_, ?_⟩⟩, ⟨⟨?_, ?_⟩, ⟨?_, ?_⟩⟩⟩ <;> kernel_rfl
theorem toHrdBook {P : Program} [Known P] (hP : P = Tryz.prog) (h : VHrd) (h1 : h.1.length ≤ 1048576) (h2 : h.2.1.length ≤ 1048576) : Fun P 97 [.agg (hrdS h)] (.agg (hrdO h)) := by
  refine fun_of (fn := Tryz.f97) (hP ▸ Tryz.func97) (by kernel_rfl) (by kernel_rfl) (by kernel_rfl) (by kernel_rfl) ?_
  have hT := TY_toHrdBook hP
  have e0 := @toIntS P _ hP
  try simp only [stS, stO, hrdS, hrdO] at e0
  have e1 := @toIntS P _ hP
  try simp only [stS, stO, hrdS, hrdO] at e1
  clear hP
  intro hl
  clear hl
  simp only [hrdS, hrdO, Tryz.f97, hT, eA, Nat.beq, List.toArray, reduceAdd, reduceLT, reduceLeDiff, reduceToNat]
  refine Fun.plain (e0 _ h1) rfl rfl rfl rfl ?_
  simp only [hT, eA, Nat.beq, List.toArray, reduceAdd, reduceLT, reduceLeDiff, reduceToNat]
  refine Fun.plain (e1 _ h2) rfl rfl rfl rfl ?_
  simp only [hT, eA, Nat.beq, List.toArray, reduceAdd, reduceLT, reduceLeDiff, reduceToNat]
  try rfl
theorem TY_toNodNode {P : Program} (hP : P = Tryz.prog) : (((((zeroT P 37 = some (((.bool false) :: ((.int .i64 0) :: ((.int .i64 0) :: (.nils :: (.nils :: (.nils :: (.nils :: (.nils :: (.nils :: (.nils :: [])))))))))))) ∧ (fldT P 56 0 = some ((0, (false, 1))))) ∧ ((tyT P 4 = some ((false, 1))) ∧ (fldT P 37 0 = some ((0, (false, 1)))))) ∧ (((fldT P 56 1 = some ((1, (false, 1)))) ∧ (tyT P 3 = some ((false, 1)))) ∧ ((fldT P 37 1 = some ((1, (false, 1)))) ∧ (fldT P 56 2 = some ((2, (false, 1))))))) ∧ ((((fldT P 37 2 = some ((2, (false, 1)))) ∧ (fldT P 56 3 = some ((3, (false, 1))))) ∧ ((tyT P 50 = some ((false, 1))) ∧ (fldT P 37 3 = some ((3, (false, 1)))))) ∧ (((tyT P 29 = some ((false, 1))) ∧ (fldT P 56 4 = some ((4, (false, 1))))) ∧ ((tyT P 51 = some ((false, 1))) ∧ (fldT P 37 4 = some ((4, (false, 1)))))))) ∧ (((((tyT P 30 = some ((false, 1))) ∧ (fldT P 56 5 = some ((5, (false, 1))))) ∧ ((fldT P 37 5 = some ((5, (false, 1)))) ∧ (fldT P 56 6 = some ((6, (false, 1)))))) ∧ (((tyT P 52 = some ((false, 1))) ∧ (fldT P 37 6 = some ((6, (false, 1))))) ∧ ((tyT P 31 = some ((false, 1))) ∧ (fldT P 56 7 = some ((7, (false, 1))))))) ∧ ((((tyT P 53 = some ((false, 1))) ∧ (fldT P 37 7 = some ((7, (false, 1))))) ∧ ((tyT P 32 = some ((false, 1))) ∧ (fldT P 56 8 = some ((8, (true, 2)))))) ∧ (((tyT P 54 = some ((true, 2))) ∧ (fldT P 37 8 = some ((8, (true, 2))))) ∧ ((tyT P 35 = some ((true, 2))) ∧ (tyT P 37 = some ((true, 10))))))) := by subst hP; refine ⟨⟨⟨⟨⟨?_, ?_⟩, ⟨?_, ?_⟩⟩, ⟨⟨?_, ?_⟩, ⟨?_, ?_⟩⟩⟩, ⟨⟨⟨?_, ?_⟩, ⟨?_, ?_⟩⟩, ⟨⟨?_, ?_⟩, ⟨?_, ?_⟩⟩⟩⟩, ⟨⟨⟨⟨?_, ?_⟩, ⟨?_, ?_⟩⟩, ⟨⟨?_, ?_⟩, ⟨?_, ?_⟩⟩⟩, ⟨⟨⟨?_, ?_⟩, ⟨?_, ?_⟩⟩, ⟨⟨?_, ?_⟩, ⟨?_, ?_⟩⟩⟩⟩⟩ <;> kernel_rfl
theorem toNodNode {P : Program} [Known P] (hP : P = Tryz.prog) (n : VNod) (h : SzN n) : Fun P 24 [.agg (nodS n)] (.agg (nodO n)) := by
  refine fun_of (fn := Tryz.f24) (hP ▸ Tryz.func24) (by kernel_rfl) (by kernel_rfl) (by kernel_rfl) (by kernel_rfl) ?_
  have hT := TY_toNodNode hP
  have e0 := @toCelCellS P _ hP
  try simp only [stS, stO, hrdS, hrdO] at e0
  have e1 := @toBoxBoxS P _ hP
  try simp only [stS, stO, hrdS, hrdO] at e1
  have e2 := @toBoxBoxS P _ hP
  try simp only [stS, stO, hrdS, hrdO] at e2
  have e3 := @toOutOutS P _ hP
  try simp only [stS, stO, hrdS, hrdO] at e3
  have e4 := @toInInS P _ hP
  try simp only [stS, stO, hrdS, hrdO] at e4
  have e5 := @toHrdBook P _ hP
  try simp only [stS, stO, hrdS, hrdO] at e5
  clear hP
  intro hl
  clear hl
  simp only [nodS, nodO, Tryz.f24, hT, eA, Nat.beq, List.toArray, reduceAdd, reduceLT, reduceLeDiff, reduceToNat]
  refine Fun.plain (e0 _ _ h.c h.c1 h.c2) rfl rfl rfl rfl ?_
  simp only [hT, eA, Nat.beq, List.toArray, reduceAdd, reduceLT, reduceLeDiff, reduceToNat]
  refine Fun.plain (e1 _ _ h.o h.o1) rfl rfl rfl rfl ?_
  simp only [hT, eA, Nat.beq, List.toArray, reduceAdd, reduceLT, reduceLeDiff, reduceToNat]
  refine Fun.plain (e2 _ _ h.i h.i1) rfl rfl rfl rfl ?_
  simp only [hT, eA, Nat.beq, List.toArray, reduceAdd, reduceLT, reduceLeDiff, reduceToNat]
  refine Fun.plain (e3 _ h.u) rfl rfl rfl rfl ?_
  simp only [hT, eA, Nat.beq, List.toArray, reduceAdd, reduceLT, reduceLeDiff, reduceToNat]
  refine Fun.plain (e4 _ h.v) rfl rfl rfl rfl ?_
  simp only [hT, eA, Nat.beq, List.toArray, reduceAdd, reduceLT, reduceLeDiff, reduceToNat]
  refine Fun.plain (e5 n.heard h.b h.s) rfl rfl rfl rfl ?_
  simp only [hT, eA, Nat.beq, List.toArray, reduceAdd, reduceLT, reduceLeDiff, reduceToNat]
  try rfl
end Go.Proofs.YtjlmfcddbcoimaaGreat.C
