/- The one machine and worlds as data; the copies that the laws make of them. -/
import Derived.Test.YtjlmfcddbcoimaaGreatCNodA
set_option maxRecDepth 100000
set_option maxHeartbeats 4000000
set_option linter.unusedSimpArgs false
set_option linter.unusedVariables false
namespace Go.Proofs.YtjlmfcddbcoimaaGreat.C
open Go Go.Av Go.Proofs
abbrev VSig := Int × Int × List UInt8 × Unit
abbrev sig0 : VSig := (0, 0, [], ())
abbrev sigZ : List AV := [.int .i64 0, .int .i64 0, .nils]
def sigS (s : VSig) : List AV := [.int .i64 s.1, .int .i64 s.2.1, B s.2.2.1]
def sigO (s : VSig) : List AV := [.int .i64 s.1, .int .i64 s.2.1, BO s.2.2.1]
abbrev listZ : List AV := [.nils]
def seenS (l : List VSig) : List AV := [.sl 3 (l.map sigS) sigZ]
def seenO (l : List VSig) : List AV := [.own 3 (l.map sigO) sigZ]
def airS (l : List (List UInt8)) : List AV := [.sl 1 (l.map msgS) msgZ]
def airO (l : List (List UInt8)) : List AV := [.own 1 (l.map msgO) msgZ]
def bE (b : Bool) : List AV := [.bool b]
abbrev bZ : List AV := [.bool false]
theorem rdR_bool (l : List Bool) : rdR (l.map bE) = l.map bE := rdR_map bE (fun _ => rfl) l
theorem rdR_sig (l : List VSig) : rdR (l.map sigO) = l.map sigS := rdR_map2 sigO sigS (fun c => by simp only [sigO, sigS, rdL, AV.rd, rdR_byt]) l
theorem rdR_seen (l : List (List VSig)) : rdR (l.map seenO) = l.map seenS := rdR_map2 seenO seenS (fun c => by simp only [seenO, seenS, rdL, AV.rd, rdR_sig]) l
theorem rdR_air (l : List (List (List UInt8))) : rdR (l.map airO) = l.map airS := rdR_map2 airO airS (fun c => by simp only [airO, airS, rdL, AV.rd, rdR_msg]) l
theorem rdR_nod (l : List VNod) : rdR (l.map nodO) = l.map nodS := rdR_map2 nodO nodS (fun c => by simp only [nodO, nodS, rdL, AV.rd, rdR_cel, rdR_box, rdR_out, rdR_inn, rdR_int]) l
abbrev nd0 : VNod := (false, 0, 0, [], [], [], [], [], ([], [], ()), ())
abbrev nodZ : List AV := [.bool false, .int .i64 0, .int .i64 0, .nils, .nils, .nils, .nils, .nils, .nils, .nils]
abbrev VOne := VPln × List Bool × List VCel × List VBox × List VBox × List (List (List UInt8)) × Int × List (List VSig) × Unit
abbrev VOne.plan (a : VOne) : VPln := a.1
abbrev VOne.up (a : VOne) := a.2.1
abbrev VOne.cells (a : VOne) := a.2.2.1
abbrev VOne.out (a : VOne) := a.2.2.2.1
abbrev VOne.inn (a : VOne) := a.2.2.2.2.1
abbrev VOne.air (a : VOne) := a.2.2.2.2.2.1
abbrev VOne.now (a : VOne) := a.2.2.2.2.2.2.1
abbrev VOne.seen (a : VOne) := a.2.2.2.2.2.2.2.1
def oneS (a : VOne) : List AV := [.int .i64 a.plan.1, .int .i64 a.plan.2.1, .int .i64 a.plan.2.2.1, .sl 5 (a.plan.cells.map cellS) cZ, .sl 5 (a.plan.ways.map wayS) wZ, .sl 2 (a.plan.slots.map slotE) sZ, .sl 1 (a.plan.turns.map turnS) tZ, .sl 1 (a.up.map bE) bZ, .sl 5 (a.cells.map celS) celZ, .sl 2 (a.out.map boxS) boxZ, .sl 2 (a.inn.map boxS) boxZ, .sl 1 (a.air.map airS) listZ, .int .i64 a.now, .sl 1 (a.seen.map seenS) listZ]
def oneO (a : VOne) : List AV := [.int .i64 a.plan.1, .int .i64 a.plan.2.1, .int .i64 a.plan.2.2.1, .own 5 (a.plan.cells.map cellO) cZ, .own 5 (a.plan.ways.map wayO) wZ, .own 2 (a.plan.slots.map slotE) sZ, .own 1 (a.plan.turns.map turnO) tZ, .own 1 (a.up.map bE) bZ, .own 5 (a.cells.map celO) celZ, .own 2 (a.out.map boxO) boxZ, .own 2 (a.inn.map boxO) boxZ, .own 1 (a.air.map airO) listZ, .int .i64 a.now, .own 1 (a.seen.map seenO) listZ]
abbrev VWld := VPln × List VNod × Int × List (List UInt8) × List (List VSig) × Unit
abbrev VWld.plan (a : VWld) : VPln := a.1
abbrev VWld.nodes (a : VWld) := a.2.1
abbrev VWld.now (a : VWld) := a.2.2.1
abbrev VWld.log (a : VWld) := a.2.2.2.1
abbrev VWld.seen (a : VWld) := a.2.2.2.2.1
def wldS (a : VWld) : List AV := [.int .i64 a.plan.1, .int .i64 a.plan.2.1, .int .i64 a.plan.2.2.1, .sl 5 (a.plan.cells.map cellS) cZ, .sl 5 (a.plan.ways.map wayS) wZ, .sl 2 (a.plan.slots.map slotE) sZ, .sl 1 (a.plan.turns.map turnS) tZ, .sl 10 (a.nodes.map nodS) nodZ, .int .i64 a.now, .sl 1 (a.log.map msgS) msgZ, .sl 1 (a.seen.map seenS) listZ]
def wldO (a : VWld) : List AV := [.int .i64 a.plan.1, .int .i64 a.plan.2.1, .int .i64 a.plan.2.2.1, .own 5 (a.plan.cells.map cellO) cZ, .own 5 (a.plan.ways.map wayO) wZ, .own 2 (a.plan.slots.map slotE) sZ, .own 1 (a.plan.turns.map turnO) tZ, .own 10 (a.nodes.map nodO) nodZ, .int .i64 a.now, .own 1 (a.log.map msgO) msgZ, .own 1 (a.seen.map seenO) listZ]
/-- No list in it is too long. -/
structure SzO (a : VOne) : Prop where
  p : Sz a.plan
  u : a.up.length ≤ 1048576
  c : a.cells.length ≤ 1048576
  c1 : ∀ i, i < a.cells.length → (a.cells.getD i cel0).1.2.1.length ≤ 1048576
  c2 : ∀ i, i < a.cells.length → (a.cells.getD i cel0).1.2.2.1.length ≤ 1048576
  o : a.out.length ≤ 1048576
  o1 : ∀ i, i < a.out.length → (a.out.getD i box0).2.1.length ≤ 1048576
  i : a.inn.length ≤ 1048576
  i1 : ∀ i, i < a.inn.length → (a.inn.getD i box0).2.1.length ≤ 1048576
  r : a.air.length ≤ 1048576
  r1 : ∀ i, i < a.air.length → (a.air.getD i []).length ≤ 1048576
  s : a.seen.length ≤ 1048576
  s1 : ∀ i, i < a.seen.length → (a.seen.getD i []).length ≤ 1048576
/-- No list in it is too long. -/
structure SzW (a : VWld) : Prop where
  p : Sz a.plan
  n : a.nodes.length ≤ 1048576
  ns : ∀ i, i < a.nodes.length → SzN (a.nodes.getD i nd0)
  l : a.log.length ≤ 1048576
  s : a.seen.length ≤ 1048576
  s1 : ∀ i, i < a.seen.length → (a.seen.getD i []).length ≤ 1048576
theorem TY_toBoolS {P : Program} (hP : P = Tryz.prog) : ((lkT P 64 = 1) ∧ (mkT P 64 = some ((1, (1, ((.bool false) :: [])))))) ∧ ((elT P 64 = some ((false, (1, 1)))) ∧ (tyT P 4 = some ((false, 1)))) := by subst hP; refine ⟨⟨?_, ?_⟩, ⟨?_, ?_⟩⟩ <;> kernel_rfl
theorem toBoolS {P : Program} [Known P] (hP : P = Tryz.prog) (l : List (Bool)) (hm : l.length ≤ 1048576) : Fun P 110 [.sl 1 (l.map bE) bZ] (.own 1 (l.map bE) bZ) := by
  refine fun_of (fn := Tryz.f110) (hP ▸ Tryz.func110) (by kernel_rfl) (by kernel_rfl) (by kernel_rfl) (by kernel_rfl) ?_
  have hT := TY_toBoolS hP
  clear hP
  intro hl
  simp only [limL, limA, and_true, List.length_map] at hl
  simp only [Tryz.f110, hT, eA, Nat.beq, List.toArray, Nat.reduceAdd, Nat.reduceLT, Nat.reduceLeDiff, Int.reduceToNat]
  unfold lim at hl
  have hl' := hl
  (try unfold lim); repeat first | ((with_reducible refine And.intro ?_ ?_); (first | omega | exact ⟨by omega, by omega⟩ | rfl)) | intro _
  refine wpc_loop {i : Nat // i ≤ l.length} (fun i => ⟨[(0, .sl 1 (l.map bE) bZ), (3, .os 0), (4, .int .i64 i.1)], [(0, ⟨1, (l.take i.1).map bE ++ List.replicate (l.length - i.1) bZ, bZ, false⟩)], 1⟩) (fun i => l.length - i.1) ⟨0, Nat.zero_le _⟩ (Le.of [] (Nat.zero_le _) ?_ ?_ ?_) ?_
  · simp only [eL, eH, eG, leO, Nat.beq, Nat.reduceLT]
  · simp only [eL, eH, eG, leO, Nat.beq, Nat.reduceLT] <;> simp
  · simp only [eL, eH, eG, leO, Nat.beq, Nat.reduceLT] <;> simp
  · rintro ⟨i, hi⟩
    have hL : (List.map bE (List.take i l) ++ List.replicate (l.length - i) bZ).length = l.length := by simp only [List.length_append, List.length_map, List.length_take, List.length_replicate]; omega
    simp only [hT, hL, eA, Nat.beq, List.toArray, Nat.reduceAdd, Nat.reduceLT, Nat.reduceLeDiff, Int.reduceToNat]
    refine fun _ => ⟨fun h => ?_, fun h => ?_⟩
    · simp only [decide_eq_true_eq] at h
      have hil : i < l.length := by omega
      have hg : ∀ d, (l.map bE).getD i d = bE (l.getD i false) := fun d => getIn bE l i d false hil
      have fs := fillSet bE l bZ i false hil
      simp only [hT, hL, hg, eA, Nat.beq, List.toArray, Nat.reduceAdd, Nat.reduceLT, Nat.reduceLeDiff, Int.reduceToNat]
      (try unfold lim); repeat first | ((with_reducible refine And.intro ?_ ?_); (first | omega | exact ⟨by omega, by omega⟩ | rfl)) | intro _
      simp only [bE] at fs
      simp only [bE, hT, hL, eA, Nat.beq, List.toArray, Nat.reduceAdd, Nat.reduceLT, Nat.reduceLeDiff, Int.reduceToNat]
      (try unfold lim); repeat first | ((with_reducible refine And.intro ?_ ?_); (first | omega | exact ⟨by omega, by omega⟩ | rfl)) | intro _
      refine ⟨⟨i + 1, hil⟩, by simp only; omega, Le.of [] (Nat.zero_le _) ?_ ?_ ?_⟩
      · simp only [eL, eH, eG, leO, Nat.beq, Nat.reduceLT]
      · simp only [eL, eH, eG, leO, Nat.beq, Nat.reduceLT] <;> omega
      · simp only [fs, eL, eH, eG, leO, Nat.beq, Nat.reduceLT]
    · simp only [decide_eq_false_iff_not] at h
      exact fillAll bE l _ i (by omega)
theorem TY_toCelSight {P : Program} (hP : P = Tryz.prog) : (((zeroT P 249 = some (((.int .i64 0) :: ((.int .i64 0) :: (.nils :: []))))) ∧ (fldT P 286 0 = some ((0, (false, 1))))) ∧ ((tyT P 3 = some ((false, 1))) ∧ ((fldT P 249 0 = some ((0, (false, 1)))) ∧ (fldT P 286 1 = some ((1, (false, 1))))))) ∧ (((fldT P 249 1 = some ((1, (false, 1)))) ∧ (fldT P 286 2 = some ((2, (false, 1))))) ∧ ((tyT P 149 = some ((false, 1))) ∧ ((fldT P 249 2 = some ((2, (false, 1)))) ∧ (tyT P 249 = some ((true, 3)))))) := by subst hP; refine ⟨⟨⟨?_, ?_⟩, ⟨?_, ⟨?_, ?_⟩⟩⟩, ⟨⟨?_, ?_⟩, ⟨?_, ⟨?_, ?_⟩⟩⟩⟩ <;> kernel_rfl
theorem toCelSight {P : Program} [Known P] (hP : P = Tryz.prog) (s : VSig) : Fun P 270 [.agg (sigS s)] (.agg (sigO s)) := by
  refine fun_of (fn := Tryz.f270) (hP ▸ Tryz.func270) (by kernel_rfl) (by kernel_rfl) (by kernel_rfl) (by kernel_rfl) ?_
  have hT := TY_toCelSight hP
  have e0 := @toByteS P _ hP
  try simp only [stS, stO, hrdS, hrdO, plnS, plnO, nodS, nodO] at e0
  clear hP
  intro hl
  clear hl
  simp only [sigS, sigO, Tryz.f270, hT, eA, Nat.beq, List.toArray, Nat.reduceAdd, Nat.reduceLT, Nat.reduceLeDiff, Int.reduceToNat]
  refine Fun.plain (e0 _) rfl rfl rfl rfl ?_
  simp only [hT, eA, Nat.beq, List.toArray, Nat.reduceAdd, Nat.reduceLT, Nat.reduceLeDiff, Int.reduceToNat]
  try rfl
theorem TY_toCelSightS {P : Program} (hP : P = Tryz.prog) : ((lkT P 245 = 1) ∧ ((mkT P 143 = some ((3, (40, ((.int .i64 0) :: ((.int .i64 0) :: (.nils :: []))))))) ∧ (elT P 245 = some ((true, (3, 40)))))) ∧ ((tyT P 286 = some ((true, 3))) ∧ ((elT P 143 = some ((true, (3, 40)))) ∧ (tyT P 249 = some ((true, 3))))) := by subst hP; refine ⟨⟨?_, ⟨?_, ?_⟩⟩, ⟨?_, ⟨?_, ?_⟩⟩⟩ <;> kernel_rfl
theorem toCelSightS {P : Program} [Known P] (hP : P = Tryz.prog) (l : List (VSig)) (d : List AV) (hm : l.length ≤ 1048576) : Fun P 201 [.sl 3 (l.map sigS) d] (.own 3 (l.map sigO) sigZ) := by
  refine fun_of (fn := Tryz.f201) (hP ▸ Tryz.func201) (by kernel_rfl) (by kernel_rfl) (by kernel_rfl) (by kernel_rfl) ?_
  have hT := TY_toCelSightS hP
  have el := @toCelSight P _ hP
  clear hP
  intro hl
  simp only [limL, limA, and_true, List.length_map] at hl
  simp only [Tryz.f201, hT, eA, Nat.beq, List.toArray, Nat.reduceAdd, Nat.reduceLT, Nat.reduceLeDiff, Int.reduceToNat]
  unfold lim at hl
  have hl' := hl
  (try unfold lim); repeat first | ((with_reducible refine And.intro ?_ ?_); (first | omega | exact ⟨by omega, by omega⟩ | rfl)) | intro _
  refine wpc_loop {i : Nat // i ≤ l.length} (fun i => ⟨[(0, .sl 3 (l.map sigS) d), (3, .os 0), (4, .int .i64 i.1)], [(0, ⟨3, (l.take i.1).map sigO ++ List.replicate (l.length - i.1) sigZ, sigZ, false⟩)], 1⟩) (fun i => l.length - i.1) ⟨0, Nat.zero_le _⟩ (Le.of [] (Nat.zero_le _) ?_ ?_ ?_) ?_
  · simp only [eL, eH, eG, leO, Nat.beq, Nat.reduceLT]
  · simp only [eL, eH, eG, leO, Nat.beq, Nat.reduceLT] <;> simp
  · simp only [eL, eH, eG, leO, Nat.beq, Nat.reduceLT] <;> simp
  · rintro ⟨i, hi⟩
    have hL : (List.map sigO (List.take i l) ++ List.replicate (l.length - i) sigZ).length = l.length := by simp only [List.length_append, List.length_map, List.length_take, List.length_replicate]; omega
    simp only [hT, hL, eA, Nat.beq, List.toArray, Nat.reduceAdd, Nat.reduceLT, Nat.reduceLeDiff, Int.reduceToNat]
    refine fun _ => ⟨fun h => ?_, fun h => ?_⟩
    · simp only [decide_eq_true_eq] at h
      have hil : i < l.length := by omega
      have hg : ∀ d, (l.map sigS).getD i d = sigS (l.getD i sig0) := fun d => getIn sigS l i d sig0 hil
      have fs := fillSet sigO l sigZ i sig0 hil
      simp only [hT, hL, hg, eA, Nat.beq, List.toArray, Nat.reduceAdd, Nat.reduceLT, Nat.reduceLeDiff, Int.reduceToNat]
      (try unfold lim); repeat first | ((with_reducible refine And.intro ?_ ?_); (first | omega | exact ⟨by omega, by omega⟩ | rfl)) | intro _
      have el := el (l.getD i sig0)
      simp only [sigS, sigO] at el fs
      simp only [sigS, hT, eA, Nat.beq, List.toArray, Nat.reduceAdd, Nat.reduceLT, Nat.reduceLeDiff, Int.reduceToNat]
      (try unfold lim); repeat first | ((with_reducible refine And.intro ?_ ?_); (first | omega | exact ⟨by omega, by omega⟩ | rfl)) | intro _
      refine Fun.plain el rfl rfl rfl rfl ?_
      simp only [hT, hL, eA, Nat.beq, List.toArray, Nat.reduceAdd, Nat.reduceLT, Nat.reduceLeDiff, Int.reduceToNat]
      (try unfold lim); repeat first | ((with_reducible refine And.intro ?_ ?_); (first | omega | exact ⟨by omega, by omega⟩ | rfl)) | intro _
      refine ⟨⟨i + 1, hil⟩, by simp only; omega, Le.of [] (Nat.zero_le _) ?_ ?_ ?_⟩
      · simp only [eL, eH, eG, leO, Nat.beq, Nat.reduceLT]
      · simp only [eL, eH, eG, leO, Nat.beq, Nat.reduceLT] <;> omega
      · simp only [fs, eL, eH, eG, leO, Nat.beq, Nat.reduceLT]
    · simp only [decide_eq_false_iff_not] at h
      exact fillAll sigO l _ i (by omega)
theorem toSeen {P : Program} [Known P] (hP : P = Tryz.prog) (l : List VSig) (h : l.length ≤ 1048576) : Fun P 201 [.sl 3 (l.map sigS) sigZ] (.own 3 (l.map sigO) sigZ) := toCelSightS hP l sigZ h
theorem TY_toCelSightSS {P : Program} (hP : P = Tryz.prog) : ((lkT P 66 = 1) ∧ ((mkT P 71 = some ((1, (24, (.nils :: []))))) ∧ (elT P 66 = some ((false, (1, 24)))))) ∧ ((tyT P 245 = some ((false, 1))) ∧ ((elT P 71 = some ((false, (1, 24)))) ∧ (tyT P 143 = some ((false, 1))))) := by subst hP; refine ⟨⟨?_, ⟨?_, ?_⟩⟩, ⟨?_, ⟨?_, ?_⟩⟩⟩ <;> kernel_rfl
theorem toCelSightSS {P : Program} [Known P] (hP : P = Tryz.prog) (l : List (List VSig)) (d : List AV) (hm : l.length ≤ 1048576) (hn0 : ∀ i, i < l.length → ((l.getD i [])).length ≤ 1048576) : Fun P 112 [.sl 1 (l.map seenS) d] (.own 1 (l.map seenO) listZ) := by
  refine fun_of (fn := Tryz.f112) (hP ▸ Tryz.func112) (by kernel_rfl) (by kernel_rfl) (by kernel_rfl) (by kernel_rfl) ?_
  have hT := TY_toCelSightSS hP
  have el := @toSeen P _ hP
  clear hP
  intro hl
  simp only [limL, limA, and_true, List.length_map] at hl
  simp only [Tryz.f112, hT, eA, Nat.beq, List.toArray, Nat.reduceAdd, Nat.reduceLT, Nat.reduceLeDiff, Int.reduceToNat]
  unfold lim at hl
  have hl' := hl
  (try unfold lim); repeat first | ((with_reducible refine And.intro ?_ ?_); (first | omega | exact ⟨by omega, by omega⟩ | rfl)) | intro _
  refine wpc_loop {i : Nat // i ≤ l.length} (fun i => ⟨[(0, .sl 1 (l.map seenS) d), (3, .os 0), (4, .int .i64 i.1)], [(0, ⟨1, (l.take i.1).map seenO ++ List.replicate (l.length - i.1) listZ, listZ, false⟩)], 1⟩) (fun i => l.length - i.1) ⟨0, Nat.zero_le _⟩ (Le.of [] (Nat.zero_le _) ?_ ?_ ?_) ?_
  · simp only [eL, eH, eG, leO, Nat.beq, Nat.reduceLT]
  · simp only [eL, eH, eG, leO, Nat.beq, Nat.reduceLT] <;> simp
  · simp only [eL, eH, eG, leO, Nat.beq, Nat.reduceLT] <;> simp
  · rintro ⟨i, hi⟩
    have hL : (List.map seenO (List.take i l) ++ List.replicate (l.length - i) listZ).length = l.length := by simp only [List.length_append, List.length_map, List.length_take, List.length_replicate]; omega
    simp only [hT, hL, eA, Nat.beq, List.toArray, Nat.reduceAdd, Nat.reduceLT, Nat.reduceLeDiff, Int.reduceToNat]
    refine fun _ => ⟨fun h => ?_, fun h => ?_⟩
    · simp only [decide_eq_true_eq] at h
      have hil : i < l.length := by omega
      have hg : ∀ d, (l.map seenS).getD i d = seenS (l.getD i []) := fun d => getIn seenS l i d [] hil
      have fs := fillSet seenO l listZ i [] hil
      simp only [hT, hL, hg, eA, Nat.beq, List.toArray, Nat.reduceAdd, Nat.reduceLT, Nat.reduceLeDiff, Int.reduceToNat]
      (try unfold lim); repeat first | ((with_reducible refine And.intro ?_ ?_); (first | omega | exact ⟨by omega, by omega⟩ | rfl)) | intro _
      have el := el (l.getD i []) (hn0 i hil)
      simp only [seenS, seenO] at el fs
      simp only [seenS, hT, eA, Nat.beq, List.toArray, Nat.reduceAdd, Nat.reduceLT, Nat.reduceLeDiff, Int.reduceToNat]
      (try unfold lim); repeat first | ((with_reducible refine And.intro ?_ ?_); (first | omega | exact ⟨by omega, by omega⟩ | rfl)) | intro _
      refine Fun.plain el rfl rfl rfl rfl ?_
      simp only [hT, hL, eA, Nat.beq, List.toArray, Nat.reduceAdd, Nat.reduceLT, Nat.reduceLeDiff, Int.reduceToNat]
      (try unfold lim); repeat first | ((with_reducible refine And.intro ?_ ?_); (first | omega | exact ⟨by omega, by omega⟩ | rfl)) | intro _
      refine ⟨⟨i + 1, hil⟩, by simp only; omega, Le.of [] (Nat.zero_le _) ?_ ?_ ?_⟩
      · simp only [eL, eH, eG, leO, Nat.beq, Nat.reduceLT]
      · simp only [eL, eH, eG, leO, Nat.beq, Nat.reduceLT] <;> omega
      · simp only [fs, eL, eH, eG, leO, Nat.beq, Nat.reduceLT]
    · simp only [decide_eq_false_iff_not] at h
      exact fillAll seenO l _ i (by omega)
theorem toAir {P : Program} [Known P] (hP : P = Tryz.prog) (l : List (List UInt8)) (h : l.length ≤ 1048576) : Fun P 132 [.sl 1 (l.map msgS) msgZ] (.own 1 (l.map msgO) msgZ) := toByteSS hP l msgZ h
theorem TY_toByteSSS {P : Program} (hP : P = Tryz.prog) : ((lkT P 65 = 1) ∧ (mkT P 65 = some ((1, (24, (.nils :: [])))))) ∧ ((elT P 65 = some ((false, (1, 24)))) ∧ (tyT P 79 = some ((false, 1)))) := by subst hP; refine ⟨⟨?_, ?_⟩, ⟨?_, ?_⟩⟩ <;> kernel_rfl
theorem toByteSSS {P : Program} [Known P] (hP : P = Tryz.prog) (l : List (List (List UInt8))) (d : List AV) (hm : l.length ≤ 1048576) (hn0 : ∀ i, i < l.length → ((l.getD i [])).length ≤ 1048576) : Fun P 111 [.sl 1 (l.map airS) d] (.own 1 (l.map airO) listZ) := by
  refine fun_of (fn := Tryz.f111) (hP ▸ Tryz.func111) (by kernel_rfl) (by kernel_rfl) (by kernel_rfl) (by kernel_rfl) ?_
  have hT := TY_toByteSSS hP
  have el := @toAir P _ hP
  clear hP
  intro hl
  simp only [limL, limA, and_true, List.length_map] at hl
  simp only [Tryz.f111, hT, eA, Nat.beq, List.toArray, Nat.reduceAdd, Nat.reduceLT, Nat.reduceLeDiff, Int.reduceToNat]
  unfold lim at hl
  have hl' := hl
  (try unfold lim); repeat first | ((with_reducible refine And.intro ?_ ?_); (first | omega | exact ⟨by omega, by omega⟩ | rfl)) | intro _
  refine wpc_loop {i : Nat // i ≤ l.length} (fun i => ⟨[(0, .sl 1 (l.map airS) d), (3, .os 0), (4, .int .i64 i.1)], [(0, ⟨1, (l.take i.1).map airO ++ List.replicate (l.length - i.1) listZ, listZ, false⟩)], 1⟩) (fun i => l.length - i.1) ⟨0, Nat.zero_le _⟩ (Le.of [] (Nat.zero_le _) ?_ ?_ ?_) ?_
  · simp only [eL, eH, eG, leO, Nat.beq, Nat.reduceLT]
  · simp only [eL, eH, eG, leO, Nat.beq, Nat.reduceLT] <;> simp
  · simp only [eL, eH, eG, leO, Nat.beq, Nat.reduceLT] <;> simp
  · rintro ⟨i, hi⟩
    have hL : (List.map airO (List.take i l) ++ List.replicate (l.length - i) listZ).length = l.length := by simp only [List.length_append, List.length_map, List.length_take, List.length_replicate]; omega
    simp only [hT, hL, eA, Nat.beq, List.toArray, Nat.reduceAdd, Nat.reduceLT, Nat.reduceLeDiff, Int.reduceToNat]
    refine fun _ => ⟨fun h => ?_, fun h => ?_⟩
    · simp only [decide_eq_true_eq] at h
      have hil : i < l.length := by omega
      have hg : ∀ d, (l.map airS).getD i d = airS (l.getD i []) := fun d => getIn airS l i d [] hil
      have fs := fillSet airO l listZ i [] hil
      simp only [hT, hL, hg, eA, Nat.beq, List.toArray, Nat.reduceAdd, Nat.reduceLT, Nat.reduceLeDiff, Int.reduceToNat]
      (try unfold lim); repeat first | ((with_reducible refine And.intro ?_ ?_); (first | omega | exact ⟨by omega, by omega⟩ | rfl)) | intro _
      have el := el (l.getD i []) (hn0 i hil)
      simp only [airS, airO] at el fs
      simp only [airS, hT, eA, Nat.beq, List.toArray, Nat.reduceAdd, Nat.reduceLT, Nat.reduceLeDiff, Int.reduceToNat]
      (try unfold lim); repeat first | ((with_reducible refine And.intro ?_ ?_); (first | omega | exact ⟨by omega, by omega⟩ | rfl)) | intro _
      refine Fun.plain el rfl rfl rfl rfl ?_
      simp only [hT, hL, eA, Nat.beq, List.toArray, Nat.reduceAdd, Nat.reduceLT, Nat.reduceLeDiff, Int.reduceToNat]
      (try unfold lim); repeat first | ((with_reducible refine And.intro ?_ ?_); (first | omega | exact ⟨by omega, by omega⟩ | rfl)) | intro _
      refine ⟨⟨i + 1, hil⟩, by simp only; omega, Le.of [] (Nat.zero_le _) ?_ ?_ ?_⟩
      · simp only [eL, eH, eG, leO, Nat.beq, Nat.reduceLT]
      · simp only [eL, eH, eG, leO, Nat.beq, Nat.reduceLT] <;> omega
      · simp only [fs, eL, eH, eG, leO, Nat.beq, Nat.reduceLT]
    · simp only [decide_eq_false_iff_not] at h
      exact fillAll airO l _ i (by omega)
theorem TY_toOneState {P : Program} (hP : P = Tryz.prog) : ((((zeroT P 73 = some (((.int .i64 0) :: ((.int .i64 0) :: ((.int .i64 0) :: (.nils :: (.nils :: (.nils :: (.nils :: (.nils :: (.nils :: (.nils :: (.nils :: (.nils :: ((.int .i64 0) :: (.nils :: [])))))))))))))))) ∧ ((fldT P 68 0 = some ((0, (true, 7)))) ∧ (tyT P 27 = some ((true, 7))))) ∧ (((fldT P 73 0 = some ((0, (true, 7)))) ∧ (tyT P 43 = some ((true, 7)))) ∧ ((fldT P 68 1 = some ((7, (false, 1)))) ∧ (tyT P 64 = some ((false, 1)))))) ∧ (((fldT P 73 1 = some ((7, (false, 1)))) ∧ ((fldT P 68 2 = some ((8, (false, 1)))) ∧ (tyT P 50 = some ((false, 1))))) ∧ (((fldT P 73 2 = some ((8, (false, 1)))) ∧ (tyT P 29 = some ((false, 1)))) ∧ ((fldT P 68 3 = some ((9, (false, 1)))) ∧ (tyT P 51 = some ((false, 1))))))) ∧ ((((fldT P 73 3 = some ((9, (false, 1)))) ∧ ((tyT P 30 = some ((false, 1))) ∧ (fldT P 68 4 = some ((10, (false, 1)))))) ∧ (((fldT P 73 4 = some ((10, (false, 1)))) ∧ (fldT P 68 5 = some ((11, (false, 1))))) ∧ ((tyT P 65 = some ((false, 1))) ∧ (fldT P 73 5 = some ((11, (false, 1))))))) ∧ ((((fldT P 68 6 = some ((12, (false, 1)))) ∧ (tyT P 3 = some ((false, 1)))) ∧ ((fldT P 73 6 = some ((12, (false, 1)))) ∧ (fldT P 68 7 = some ((13, (false, 1)))))) ∧ (((tyT P 66 = some ((false, 1))) ∧ (fldT P 73 7 = some ((13, (false, 1))))) ∧ ((tyT P 71 = some ((false, 1))) ∧ (tyT P 73 = some ((true, 14))))))) := by subst hP; refine ⟨⟨⟨⟨?_, ⟨?_, ?_⟩⟩, ⟨⟨?_, ?_⟩, ⟨?_, ?_⟩⟩⟩, ⟨⟨?_, ⟨?_, ?_⟩⟩, ⟨⟨?_, ?_⟩, ⟨?_, ?_⟩⟩⟩⟩, ⟨⟨⟨?_, ⟨?_, ?_⟩⟩, ⟨⟨?_, ?_⟩, ⟨?_, ?_⟩⟩⟩, ⟨⟨⟨?_, ?_⟩, ⟨?_, ?_⟩⟩, ⟨⟨?_, ?_⟩, ⟨?_, ?_⟩⟩⟩⟩⟩ <;> kernel_rfl
theorem toOneState {P : Program} [Known P] (hP : P = Tryz.prog) (a : VOne) (h : SzO a) : Fun P 34 [.agg (oneS a)] (.agg (oneO a)) := by
  refine fun_of (fn := Tryz.f34) (hP ▸ Tryz.func34) (by kernel_rfl) (by kernel_rfl) (by kernel_rfl) (by kernel_rfl) ?_
  have hT := TY_toOneState hP
  have e0 := @toPlnPlan P _ hP
  try simp only [stS, stO, hrdS, hrdO, plnS, plnO, nodS, nodO] at e0
  have e1 := @toBoolS P _ hP
  try simp only [stS, stO, hrdS, hrdO, plnS, plnO, nodS, nodO] at e1
  have e2 := @toCelCellS P _ hP
  try simp only [stS, stO, hrdS, hrdO, plnS, plnO, nodS, nodO] at e2
  have e3 := @toBoxBoxS P _ hP
  try simp only [stS, stO, hrdS, hrdO, plnS, plnO, nodS, nodO] at e3
  have e4 := @toBoxBoxS P _ hP
  try simp only [stS, stO, hrdS, hrdO, plnS, plnO, nodS, nodO] at e4
  have e5 := @toByteSSS P _ hP
  try simp only [stS, stO, hrdS, hrdO, plnS, plnO, nodS, nodO] at e5
  have e6 := @toCelSightSS P _ hP
  try simp only [stS, stO, hrdS, hrdO, plnS, plnO, nodS, nodO] at e6
  clear hP
  intro hl
  clear hl
  simp only [oneS, oneO, Tryz.f34, hT, eA, Nat.beq, List.toArray, Nat.reduceAdd, Nat.reduceLT, Nat.reduceLeDiff, Int.reduceToNat]
  refine Fun.plain (e0 a.plan h.p) rfl rfl rfl rfl ?_
  simp only [hT, eA, Nat.beq, List.toArray, Nat.reduceAdd, Nat.reduceLT, Nat.reduceLeDiff, Int.reduceToNat]
  refine Fun.plain (e1 _ h.u) rfl rfl rfl rfl ?_
  simp only [hT, eA, Nat.beq, List.toArray, Nat.reduceAdd, Nat.reduceLT, Nat.reduceLeDiff, Int.reduceToNat]
  refine Fun.plain (e2 _ _ h.c h.c1 h.c2) rfl rfl rfl rfl ?_
  simp only [hT, eA, Nat.beq, List.toArray, Nat.reduceAdd, Nat.reduceLT, Nat.reduceLeDiff, Int.reduceToNat]
  refine Fun.plain (e3 _ _ h.o h.o1) rfl rfl rfl rfl ?_
  simp only [hT, eA, Nat.beq, List.toArray, Nat.reduceAdd, Nat.reduceLT, Nat.reduceLeDiff, Int.reduceToNat]
  refine Fun.plain (e4 _ _ h.i h.i1) rfl rfl rfl rfl ?_
  simp only [hT, eA, Nat.beq, List.toArray, Nat.reduceAdd, Nat.reduceLT, Nat.reduceLeDiff, Int.reduceToNat]
  refine Fun.plain (e5 _ _ h.r h.r1) rfl rfl rfl rfl ?_
  simp only [hT, eA, Nat.beq, List.toArray, Nat.reduceAdd, Nat.reduceLT, Nat.reduceLeDiff, Int.reduceToNat]
  refine Fun.plain (e6 _ _ h.s h.s1) rfl rfl rfl rfl ?_
  simp only [hT, eA, Nat.beq, List.toArray, Nat.reduceAdd, Nat.reduceLT, Nat.reduceLeDiff, Int.reduceToNat]
  try rfl
theorem TY_toNodNodeS {P : Program} (hP : P = Tryz.prog) : ((lkT P 78 = 1) ∧ ((mkT P 84 = some ((10, (192, ((.bool false) :: ((.int .i64 0) :: ((.int .i64 0) :: (.nils :: (.nils :: (.nils :: (.nils :: (.nils :: (.nils :: (.nils :: [])))))))))))))) ∧ (elT P 78 = some ((true, (10, 192)))))) ∧ ((tyT P 56 = some ((true, 10))) ∧ ((elT P 84 = some ((true, (10, 192)))) ∧ (tyT P 37 = some ((true, 10))))) := by subst hP; refine ⟨⟨?_, ⟨?_, ?_⟩⟩, ⟨?_, ⟨?_, ?_⟩⟩⟩ <;> kernel_rfl
theorem toNodNodeS {P : Program} [Known P] (hP : P = Tryz.prog) (l : List (VNod)) (d : List AV) (hm : l.length ≤ 1048576) (hn0 : ∀ i, i < l.length → SzN (l.getD i nd0)) : Fun P 131 [.sl 10 (l.map nodS) d] (.own 10 (l.map nodO) nodZ) := by
  refine fun_of (fn := Tryz.f131) (hP ▸ Tryz.func131) (by kernel_rfl) (by kernel_rfl) (by kernel_rfl) (by kernel_rfl) ?_
  have hT := TY_toNodNodeS hP
  have el := @toNodNode P _ hP
  clear hP
  intro hl
  simp only [limL, limA, and_true, List.length_map] at hl
  simp only [Tryz.f131, hT, eA, Nat.beq, List.toArray, Nat.reduceAdd, Nat.reduceLT, Nat.reduceLeDiff, Int.reduceToNat]
  unfold lim at hl
  have hl' := hl
  (try unfold lim); repeat first | ((with_reducible refine And.intro ?_ ?_); (first | omega | exact ⟨by omega, by omega⟩ | rfl)) | intro _
  refine wpc_loop {i : Nat // i ≤ l.length} (fun i => ⟨[(0, .sl 10 (l.map nodS) d), (3, .os 0), (4, .int .i64 i.1)], [(0, ⟨10, (l.take i.1).map nodO ++ List.replicate (l.length - i.1) nodZ, nodZ, false⟩)], 1⟩) (fun i => l.length - i.1) ⟨0, Nat.zero_le _⟩ (Le.of [] (Nat.zero_le _) ?_ ?_ ?_) ?_
  · simp only [eL, eH, eG, leO, Nat.beq, Nat.reduceLT]
  · simp only [eL, eH, eG, leO, Nat.beq, Nat.reduceLT] <;> simp
  · simp only [eL, eH, eG, leO, Nat.beq, Nat.reduceLT] <;> simp
  · rintro ⟨i, hi⟩
    have hL : (List.map nodO (List.take i l) ++ List.replicate (l.length - i) nodZ).length = l.length := by simp only [List.length_append, List.length_map, List.length_take, List.length_replicate]; omega
    simp only [hT, hL, eA, Nat.beq, List.toArray, Nat.reduceAdd, Nat.reduceLT, Nat.reduceLeDiff, Int.reduceToNat]
    refine fun _ => ⟨fun h => ?_, fun h => ?_⟩
    · simp only [decide_eq_true_eq] at h
      have hil : i < l.length := by omega
      have hg : ∀ d, (l.map nodS).getD i d = nodS (l.getD i nd0) := fun d => getIn nodS l i d nd0 hil
      have fs := fillSet nodO l nodZ i nd0 hil
      simp only [hT, hL, hg, eA, Nat.beq, List.toArray, Nat.reduceAdd, Nat.reduceLT, Nat.reduceLeDiff, Int.reduceToNat]
      (try unfold lim); repeat first | ((with_reducible refine And.intro ?_ ?_); (first | omega | exact ⟨by omega, by omega⟩ | rfl)) | intro _
      have el := el (l.getD i nd0) (hn0 i hil)
      simp only [nodS, nodO] at el fs
      simp only [nodS, hT, eA, Nat.beq, List.toArray, Nat.reduceAdd, Nat.reduceLT, Nat.reduceLeDiff, Int.reduceToNat]
      (try unfold lim); repeat first | ((with_reducible refine And.intro ?_ ?_); (first | omega | exact ⟨by omega, by omega⟩ | rfl)) | intro _
      refine Fun.plain el rfl rfl rfl rfl ?_
      simp only [hT, hL, eA, Nat.beq, List.toArray, Nat.reduceAdd, Nat.reduceLT, Nat.reduceLeDiff, Int.reduceToNat]
      (try unfold lim); repeat first | ((with_reducible refine And.intro ?_ ?_); (first | omega | exact ⟨by omega, by omega⟩ | rfl)) | intro _
      refine ⟨⟨i + 1, hil⟩, by simp only; omega, Le.of [] (Nat.zero_le _) ?_ ?_ ?_⟩
      · simp only [eL, eH, eG, leO, Nat.beq, Nat.reduceLT]
      · simp only [eL, eH, eG, leO, Nat.beq, Nat.reduceLT] <;> omega
      · simp only [fs, eL, eH, eG, leO, Nat.beq, Nat.reduceLT]
    · simp only [decide_eq_false_iff_not] at h
      exact fillAll nodO l _ i (by omega)
theorem TY_toWldWorld {P : Program} (hP : P = Tryz.prog) : ((((zeroT P 86 = some (((.int .i64 0) :: ((.int .i64 0) :: ((.int .i64 0) :: (.nils :: (.nils :: (.nils :: (.nils :: (.nils :: ((.int .i64 0) :: (.nils :: (.nils :: []))))))))))))) ∧ (fldT P 81 0 = some ((0, (true, 7))))) ∧ ((tyT P 27 = some ((true, 7))) ∧ ((fldT P 86 0 = some ((0, (true, 7)))) ∧ (tyT P 43 = some ((true, 7)))))) ∧ (((fldT P 81 1 = some ((7, (false, 1)))) ∧ (tyT P 78 = some ((false, 1)))) ∧ ((fldT P 86 1 = some ((7, (false, 1)))) ∧ ((tyT P 84 = some ((false, 1))) ∧ (fldT P 81 2 = some ((8, (false, 1)))))))) ∧ ((((tyT P 3 = some ((false, 1))) ∧ (fldT P 86 2 = some ((8, (false, 1))))) ∧ ((fldT P 81 3 = some ((9, (false, 1)))) ∧ ((tyT P 79 = some ((false, 1))) ∧ (fldT P 86 3 = some ((9, (false, 1))))))) ∧ (((fldT P 81 4 = some ((10, (false, 1)))) ∧ (tyT P 66 = some ((false, 1)))) ∧ ((fldT P 86 4 = some ((10, (false, 1)))) ∧ ((tyT P 71 = some ((false, 1))) ∧ (tyT P 86 = some ((true, 11))))))) := by subst hP; refine ⟨⟨⟨⟨?_, ?_⟩, ⟨?_, ⟨?_, ?_⟩⟩⟩, ⟨⟨?_, ?_⟩, ⟨?_, ⟨?_, ?_⟩⟩⟩⟩, ⟨⟨⟨?_, ?_⟩, ⟨?_, ⟨?_, ?_⟩⟩⟩, ⟨⟨?_, ?_⟩, ⟨?_, ⟨?_, ?_⟩⟩⟩⟩⟩ <;> kernel_rfl
theorem toWldWorld {P : Program} [Known P] (hP : P = Tryz.prog) (a : VWld) (h : SzW a) : Fun P 41 [.agg (wldS a)] (.agg (wldO a)) := by
  refine fun_of (fn := Tryz.f41) (hP ▸ Tryz.func41) (by kernel_rfl) (by kernel_rfl) (by kernel_rfl) (by kernel_rfl) ?_
  have hT := TY_toWldWorld hP
  have e0 := @toPlnPlan P _ hP
  try simp only [stS, stO, hrdS, hrdO, plnS, plnO, nodS, nodO] at e0
  have e1 := @toNodNodeS P _ hP
  try simp only [stS, stO, hrdS, hrdO, plnS, plnO, nodS, nodO] at e1
  have e2 := @toByteSS P _ hP
  try simp only [stS, stO, hrdS, hrdO, plnS, plnO, nodS, nodO] at e2
  have e3 := @toCelSightSS P _ hP
  try simp only [stS, stO, hrdS, hrdO, plnS, plnO, nodS, nodO] at e3
  clear hP
  intro hl
  clear hl
  simp only [wldS, wldO, Tryz.f41, hT, eA, Nat.beq, List.toArray, Nat.reduceAdd, Nat.reduceLT, Nat.reduceLeDiff, Int.reduceToNat]
  refine Fun.plain (e0 a.plan h.p) rfl rfl rfl rfl ?_
  simp only [hT, eA, Nat.beq, List.toArray, Nat.reduceAdd, Nat.reduceLT, Nat.reduceLeDiff, Int.reduceToNat]
  refine Fun.plain (e1 _ _ h.n h.ns) rfl rfl rfl rfl ?_
  simp only [hT, eA, Nat.beq, List.toArray, Nat.reduceAdd, Nat.reduceLT, Nat.reduceLeDiff, Int.reduceToNat]
  refine Fun.plain (e2 _ _ h.l) rfl rfl rfl rfl ?_
  simp only [hT, eA, Nat.beq, List.toArray, Nat.reduceAdd, Nat.reduceLT, Nat.reduceLeDiff, Int.reduceToNat]
  refine Fun.plain (e3 _ _ h.s h.s1) rfl rfl rfl rfl ?_
  simp only [hT, eA, Nat.beq, List.toArray, Nat.reduceAdd, Nat.reduceLT, Nat.reduceLeDiff, Int.reduceToNat]
  try rfl
end Go.Proofs.YtjlmfcddbcoimaaGreat.C
