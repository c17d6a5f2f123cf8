/- What it means that cells, boxes, halves and nodes are ok, as plain functions; the short functions that say so. -/
import Derived.Test.YtjlmfcddbcoimaaGreatCNodG
import Derived.Test.YtjlmfcddbcoimaaGreatCPlnK
set_option maxRecDepth 100000
set_option maxHeartbeats 4000000
set_option linter.unusedSimpArgs false
set_option linter.unusedVariables false
namespace Go.Proofs.YtjlmfcddbcoimaaGreat.C
open Go Go.Av Go.Proofs
open Nat (reduceAdd reduceLT reduceLeDiff reduceSub)
open Int (reduceToNat)
def ends (p : VPln) (w : Int) : Int := (p.cell (p.way w.toNat).2.1.toNat).1
abbrev VNod.cell (n : VNod) (k : Nat) : VCel := n.cells.getD k cel0
abbrev VNod.ob (n : VNod) (k : Nat) : VBox := n.out.getD k box0
abbrev VNod.ib (n : VNod) (k : Nat) : VBox := n.inn.getD k box0
abbrev VNod.oh (n : VNod) (k : Nat) : VOut := n.outs.getD k out0
abbrev VNod.ih (n : VNod) (k : Nat) : VInn := n.inns.getD k inn0
def msgB (m : List UInt8) : Bool := decide ((m.length : Int) ≤ 8)
def bxHd (b : VBox) : Bool := decide (b.1 < 1) || (decide (4 < b.1) || decide (b.1 < (b.2.1.length : Int)))
def bxB (b : VBox) : Bool := !bxHd b && b.2.1.all msgB
def outB (o : VOut) : Bool := decide (1 ≤ o.1) && (decide (o.1 ≤ 60000) && (decide (0 ≤ o.2.1) && (decide (o.2.1 ≤ 60000) && (decide (0 ≤ o.2.2.1) && (decide (o.2.2.1 ≤ 200) && (decide (0 ≤ o.2.2.2.1) && decide (o.2.2.2.1 ≤ 15)))))))
def innB (i : VInn) : Bool := decide (0 ≤ i.1) && (decide (i.1 ≤ 60000) && (decide (0 ≤ i.2.1) && (decide (i.2.1 ≤ 200) && (decide (0 ≤ i.2.2.1) && decide (i.2.2.1 ≤ 16)))))
def outEq (a b : VOut) : Bool := decide (a.1 = b.1) && (decide (a.2.1 = b.2.1) && (decide (a.2.2.1 = b.2.2.1) && decide (a.2.2.2.1 = b.2.2.2.1)))
def innEq (a b : VInn) : Bool := decide (a.1 = b.1) && (decide (a.2.1 = b.2.1) && decide (a.2.2.1 = b.2.2.1))
def hrdHd (h : VHrd) : Bool := decide ((h.1.length : Int) < 1) || (decide (4 < (h.1.length : Int)) || !decide ((h.2.1.length : Int) = h.1.length))
def hrdAt (h : VHrd) (k : Nat) : Bool := decide (0 ≤ h.1.getD k 0) && (decide (h.1.getD k 0 ≤ 60000) && (decide (0 ≤ h.2.1.getD k 0) && (decide (h.2.1.getD k 0 ≤ 60000) && (!decide (h.1.getD k 0 = 0) || decide (h.2.1.getD k 0 = 0)))))
def hrdB (h : VHrd) : Bool := !hrdHd h && (List.range h.1.length).all (hrdAt h)
def farB (p : VPln) (k a : Int) : Bool := decide (begins p k = a) && !decide (ends p k = a)
def celB (c : VCel) (its : VCell) (live : Bool) : Bool := celOkB c && (decide (c.1.1 ≤ (its.2.2.2.1.length : Int)) && (live || sameC c celN))
def boxB (b : VBox) (w : VWay) (hold : Bool) : Bool := bxB b && (decide (b.1 = w.2.2.1) && (hold || decide ((b.2.1.length : Int) = 0)))
def lifeHd (n : VNod) : Bool := decide (n.boot < 0) || (decide (60000 < n.boot) || (decide (n.hello < 0) || (decide (60000 < n.hello) || (n.up && decide (n.boot = 0)))))
def lifeMid (p : VPln) (n : VNod) (a : Int) : Bool := !hrdB n.heard || (!decide ((n.heard.1.length : Int) = p.1) || (!decide (n.heard.1.getD a.toNat 0 = 0) || (!n.up && !decide (n.hello = 0))))
def lifeAt (n : VNod) (b : Int) : Bool := n.up || decide (b = 0)
def lifeB (p : VPln) (n : VNod) (a : Int) : Bool := !lifeHd n && (!lifeMid p n a && n.heard.1.all (lifeAt n))
def halfO (p : VPln) (n : VNod) (a : Int) (k : Nat) : Bool := bif n.up && farB p k a then outB (n.oh k) && (decide ((n.oh k).1 = n.boot) && !decide (n.heard.1.getD (ends p k).toNat 0 < (n.oh k).2.1)) else outEq (n.oh k) (outN 1)
def halfI (p : VPln) (n : VNod) (a : Int) (k : Nat) : Bool := bif n.up && (decide (ends p k = a) && !decide (begins p k = a)) then innB (n.ih k) else innEq (n.ih k) inn0
def halvesB (p : VPln) (n : VNod) (a : Int) (k : Nat) : Bool := halfO p n a k && halfI p n a k
def cellsAt (p : VPln) (n : VNod) (a : Int) (k : Nat) : Bool := celB (n.cell k) (p.cell k) (n.up && decide ((p.cell k).1 = a))
def waysAt (p : VPln) (n : VNod) (a : Int) (k : Nat) : Bool := boxB (n.ob k) (p.way k) (n.up && decide (begins p k = a)) && (boxB (n.ib k) (p.way k) (n.up && decide (ends p k = a)) && halvesB p n a k)
def lensB (p : VPln) (n : VNod) : Bool := decide ((n.out.length : Int) = p.ways.length) && (decide ((n.inn.length : Int) = p.ways.length) && (decide ((n.outs.length : Int) = p.ways.length) && decide ((n.inns.length : Int) = p.ways.length)))
def goodB (p : VPln) (n : VNod) (a : Int) : Bool := lifeB p n a && (decide ((n.cells.length : Int) = p.cells.length) && ((List.range p.cells.length).all (cellsAt p n a) && (lensB p n && (List.range p.ways.length).all (waysAt p n a))))
def okN (p : VPln) (n : VNod) (a : Int) : Bool := (res p).isNone && (has a p.1 && goodB p n a)
theorem rall_succ (f : Nat → Bool) (k : Nat) : (List.range (k + 1)).all f = ((List.range k).all f && f k) := by
  rw [List.range_succ, List.all_append]; simp
theorem rall_bad (f : Nat → Bool) (n k : Nat) (h : k < n) (hb : f k = false) : (List.range n).all f = false :=
  List.all_eq_false.2 ⟨k, List.mem_range.2 h, by simp [hb]⟩
theorem rall_get {f : Nat → Bool} {n : Nat} (h : (List.range n).all f = true) (k : Nat) (hk : k < n) : f k = true := by
  rw [List.all_eq_true] at h; exact h k (List.mem_range.2 hk)
theorem TY_msgB {P : Program} (hP : P = Tryz.prog) : lkT P 149 = 1 := by subst hP; kernel_rfl
theorem messageI {P : Program} [Known P] (hP : P = Tryz.prog) (m : List UInt8) : Fun P 204 [B m] (.bool (msgB m)) := by
  refine fun_of (fn := Tryz.f204) (hP ▸ Tryz.func204) (by kernel_rfl) (by kernel_rfl) (by kernel_rfl) (by kernel_rfl) ?_
  have hT := TY_msgB hP
  clear hP
  intro hl
  clear hl
  simp only [Tryz.f204, hT, eA, Nat.beq, List.toArray, reduceAdd, reduceLT, reduceLeDiff, reduceToNat]
  unfold msgB
  intro _
  rfl
theorem messageS {P : Program} [Known P] (hP : P = Tryz.prog) (m : List UInt8) : Fun P 200 [B m] (.bool (msgB m)) := by
  refine fun_of (fn := Tryz.f200) (hP ▸ Tryz.func200) (by kernel_rfl) (by kernel_rfl) (by kernel_rfl) (by kernel_rfl) ?_
  have hT := TY_msgB hP
  clear hP
  intro hl
  clear hl
  simp only [Tryz.f200, hT, eA, Nat.beq, List.toArray, reduceAdd, reduceLT, reduceLeDiff, reduceToNat]
  unfold msgB
  intro _
  rfl
theorem TY_outOkI {P : Program} (hP : P = Tryz.prog) : ((fldT P 201 0 = some ((0, (false, 1)))) ∧ (tyT P 3 = some ((false, 1)))) ∧ ((fldT P 201 1 = some ((1, (false, 1)))) ∧ ((fldT P 201 2 = some ((2, (false, 1)))) ∧ (fldT P 201 3 = some ((3, (false, 1)))))) := by subst hP; refine ⟨⟨?_, ?_⟩, ⟨?_, ⟨?_, ?_⟩⟩⟩ <;> kernel_rfl
theorem outOkI {P : Program} [Known P] (hP : P = Tryz.prog) (o : VOut) : Fun P 261 [.agg (outE o)] (.bool (outB o)) := by
  refine fun_of (fn := Tryz.f261) (hP ▸ Tryz.func261) (by kernel_rfl) (by kernel_rfl) (by kernel_rfl) (by kernel_rfl) ?_
  have hT := TY_outOkI hP
  clear hP
  intro hl
  clear hl
  simp only [outE, Tryz.f261, hT, eA, Nat.beq, List.toArray, reduceAdd, reduceLT, reduceLeDiff, reduceToNat]
  unfold outB
  (repeat' (refine If.mk (fun q => ?_) (fun q => ?_))) <;> first | (simp_all; done) | (simp_all; intros; omega)
theorem TY_inOkI {P : Program} (hP : P = Tryz.prog) : ((fldT P 204 0 = some ((0, (false, 1)))) ∧ (tyT P 3 = some ((false, 1)))) ∧ ((fldT P 204 1 = some ((1, (false, 1)))) ∧ (fldT P 204 2 = some ((2, (false, 1))))) := by subst hP; refine ⟨⟨?_, ?_⟩, ⟨?_, ?_⟩⟩ <;> kernel_rfl
theorem inOkI {P : Program} [Known P] (hP : P = Tryz.prog) (o : VInn) : Fun P 262 [.agg (innE o)] (.bool (innB o)) := by
  refine fun_of (fn := Tryz.f262) (hP ▸ Tryz.func262) (by kernel_rfl) (by kernel_rfl) (by kernel_rfl) (by kernel_rfl) ?_
  have hT := TY_inOkI hP
  clear hP
  intro hl
  clear hl
  simp only [innE, Tryz.f262, hT, eA, Nat.beq, List.toArray, reduceAdd, reduceLT, reduceLeDiff, reduceToNat]
  unfold innB
  (repeat' (refine If.mk (fun q => ?_) (fun q => ?_))) <;> first | (simp_all; done) | (simp_all; intros; omega)
theorem TY_outOkS {P : Program} (hP : P = Tryz.prog) : ((fldT P 201 0 = some ((0, (false, 1)))) ∧ (tyT P 3 = some ((false, 1)))) ∧ ((fldT P 201 1 = some ((1, (false, 1)))) ∧ ((fldT P 201 2 = some ((2, (false, 1)))) ∧ (fldT P 201 3 = some ((3, (false, 1)))))) := by subst hP; refine ⟨⟨?_, ?_⟩, ⟨?_, ⟨?_, ?_⟩⟩⟩ <;> kernel_rfl
theorem outOkS {P : Program} [Known P] (hP : P = Tryz.prog) (o : VOut) : Fun P 304 [.agg (outE o)] (.bool (outB o)) := by
  refine fun_of (fn := Tryz.f304) (hP ▸ Tryz.func304) (by kernel_rfl) (by kernel_rfl) (by kernel_rfl) (by kernel_rfl) ?_
  have hT := TY_outOkS hP
  have l1 := fun x a b => l1In hP x a b
  clear hP
  intro hl
  clear hl
  simp only [outE, Tryz.f304, hT, eA, Nat.beq, List.toArray, reduceAdd, reduceLT, reduceLeDiff, reduceToNat]
  rw [show outB o = ((decide (1 ≤ o.1) && decide (o.1 ≤ 60000)) && ((decide (0 ≤ o.2.1) && decide (o.2.1 ≤ 60000)) && ((decide (0 ≤ o.2.2.1) && decide (o.2.2.1 ≤ 200)) && (decide (0 ≤ o.2.2.2.1) && decide (o.2.2.2.1 ≤ 15))))) by simp only [outB, Bool.and_assoc]]
  refine Fun.plain (l1 _ _ _) rfl rfl rfl rfl ?_; simp only [hT, eN, ↓If_lit, Int.reduceLT, Int.reduceLE, eA, Nat.beq, List.toArray, reduceAdd, reduceLT, reduceLeDiff, reduceToNat]; (try unfold lim); repeat first | ((with_reducible refine And.intro ?_ ?_); (first | omega | exact ⟨by omega, by omega⟩ | rfl)) | intro _
  refine ⟨fun q => ?_, fun q => by rw [q]; simp⟩
  rw [q]
  refine Fun.plain (l1 _ _ _) rfl rfl rfl rfl ?_; simp only [hT, eN, ↓If_lit, Int.reduceLT, Int.reduceLE, eA, Nat.beq, List.toArray, reduceAdd, reduceLT, reduceLeDiff, reduceToNat]; (try unfold lim); repeat first | ((with_reducible refine And.intro ?_ ?_); (first | omega | exact ⟨by omega, by omega⟩ | rfl)) | intro _
  refine ⟨fun q => ?_, fun q => by rw [q]; simp⟩
  rw [q]
  refine Fun.plain (l1 _ _ _) rfl rfl rfl rfl ?_; simp only [hT, eN, ↓If_lit, Int.reduceLT, Int.reduceLE, eA, Nat.beq, List.toArray, reduceAdd, reduceLT, reduceLeDiff, reduceToNat]; (try unfold lim); repeat first | ((with_reducible refine And.intro ?_ ?_); (first | omega | exact ⟨by omega, by omega⟩ | rfl)) | intro _
  refine ⟨fun q => ?_, fun q => by rw [q]; simp⟩
  rw [q]
  refine Fun.plain (l1 _ _ _) rfl rfl rfl rfl ?_; simp only [hT, eN, ↓If_lit, Int.reduceLT, Int.reduceLE, eA, Nat.beq, List.toArray, reduceAdd, reduceLT, reduceLeDiff, reduceToNat]; (try unfold lim); repeat first | ((with_reducible refine And.intro ?_ ?_); (first | omega | exact ⟨by omega, by omega⟩ | rfl)) | intro _
theorem TY_inOkS {P : Program} (hP : P = Tryz.prog) : ((fldT P 204 0 = some ((0, (false, 1)))) ∧ (tyT P 3 = some ((false, 1)))) ∧ ((fldT P 204 1 = some ((1, (false, 1)))) ∧ (fldT P 204 2 = some ((2, (false, 1))))) := by subst hP; refine ⟨⟨?_, ?_⟩, ⟨?_, ?_⟩⟩ <;> kernel_rfl
theorem inOkS {P : Program} [Known P] (hP : P = Tryz.prog) (o : VInn) : Fun P 305 [.agg (innE o)] (.bool (innB o)) := by
  refine fun_of (fn := Tryz.f305) (hP ▸ Tryz.func305) (by kernel_rfl) (by kernel_rfl) (by kernel_rfl) (by kernel_rfl) ?_
  have hT := TY_inOkS hP
  have l1 := fun x a b => l1In hP x a b
  clear hP
  intro hl
  clear hl
  simp only [innE, Tryz.f305, hT, eA, Nat.beq, List.toArray, reduceAdd, reduceLT, reduceLeDiff, reduceToNat]
  rw [show innB o = ((decide (0 ≤ o.1) && decide (o.1 ≤ 60000)) && ((decide (0 ≤ o.2.1) && decide (o.2.1 ≤ 200)) && (decide (0 ≤ o.2.2.1) && decide (o.2.2.1 ≤ 16)))) by simp only [innB, Bool.and_assoc]]
  refine Fun.plain (l1 _ _ _) rfl rfl rfl rfl ?_; simp only [hT, eN, ↓If_lit, Int.reduceLT, Int.reduceLE, eA, Nat.beq, List.toArray, reduceAdd, reduceLT, reduceLeDiff, reduceToNat]; (try unfold lim); repeat first | ((with_reducible refine And.intro ?_ ?_); (first | omega | exact ⟨by omega, by omega⟩ | rfl)) | intro _
  refine ⟨fun q => ?_, fun q => by rw [q]; simp⟩
  rw [q]
  refine Fun.plain (l1 _ _ _) rfl rfl rfl rfl ?_; simp only [hT, eN, ↓If_lit, Int.reduceLT, Int.reduceLE, eA, Nat.beq, List.toArray, reduceAdd, reduceLT, reduceLeDiff, reduceToNat]; (try unfold lim); repeat first | ((with_reducible refine And.intro ?_ ?_); (first | omega | exact ⟨by omega, by omega⟩ | rfl)) | intro _
  refine ⟨fun q => ?_, fun q => by rw [q]; simp⟩
  rw [q]
  refine Fun.plain (l1 _ _ _) rfl rfl rfl rfl ?_; simp only [hT, eN, ↓If_lit, Int.reduceLT, Int.reduceLE, eA, Nat.beq, List.toArray, reduceAdd, reduceLT, reduceLeDiff, reduceToNat]; (try unfold lim); repeat first | ((with_reducible refine And.intro ?_ ?_); (first | omega | exact ⟨by omega, by omega⟩ | rfl)) | intro _
theorem TY_endsI {P : Program} (hP : P = Tryz.prog) : (((P.follows .mixedOrders = true) ∧ (fldT P 43 3 = some ((3, (false, 1))))) ∧ ((tyT P 39 = some ((false, 1))) ∧ ((fldT P 43 4 = some ((4, (false, 1)))) ∧ (tyT P 40 = some ((false, 1)))))) ∧ (((elT P 40 = some ((true, (5, 56)))) ∧ (fldT P 160 1 = some ((1, (false, 1))))) ∧ ((tyT P 3 = some ((false, 1))) ∧ ((elT P 39 = some ((true, (5, 56)))) ∧ (fldT P 156 0 = some ((0, (false, 1))))))) := by subst hP; refine ⟨⟨⟨?_, ?_⟩, ⟨?_, ⟨?_, ?_⟩⟩⟩, ⟨⟨?_, ?_⟩, ⟨?_, ⟨?_, ?_⟩⟩⟩⟩ <;> kernel_rfl
theorem endsI {P : Program} [Known P] (hP : P = Tryz.prog) (p : VPln) (w : Int) (hw : has w p.ways.length = true) (h1 : has (p.way w.toNat).2.1 p.cells.length = true) : Fun P 117 [.rp (plnS p), .int .i64 w] (.int .i64 (ends p w)) := by
  refine fun_of (fn := Tryz.f117) (hP ▸ Tryz.func117) (by kernel_rfl) (by kernel_rfl) (by kernel_rfl) (by kernel_rfl) ?_
  have hT := TY_endsI hP
  have hm : P.follows .mixedOrders = true := by subst hP; kernel_rfl
  clear hP
  intro hl
  clear hl
  obtain ⟨h0, h0'⟩ := has_iff hw
  obtain ⟨h1, h1'⟩ := has_iff h1
  have hg : ∀ d, (p.ways.map wayS).getD w.toNat d = wayS (p.way w.toNat) := fun d => getIn wayS p.ways _ d w0 (by omega)
  have g1 : ∀ d, (p.cells.map cellS).getD (p.way w.toNat).2.1.toNat d = cellS (p.cell (p.way w.toNat).2.1.toNat) := fun d => getIn cellS p.cells _ d c0 (by omega)
  simp only [plnS, Tryz.f117, hT, eA, Nat.beq, List.toArray, reduceAdd, reduceLT, reduceLeDiff, reduceToNat]
  refine wpc_read [0, 1, 2, 3, 4, 5, 6, 7, 8, 9, 10, 11, 12, 13, 14, 15] hm (by kernel_rfl) ?_
  simp only [hT, hg, wayS, g1, cellS, eT, ↓If_lit, reduceSub, reduceCtorEq, eA, Nat.beq, List.toArray, reduceAdd, reduceLT, reduceLeDiff, reduceToNat]
  (try unfold lim); repeat first | ((with_reducible refine And.intro ?_ ?_); (first | omega | exact ⟨by omega, by omega⟩ | rfl)) | intro _
  rfl
theorem TY_farI {P : Program} (hP : P = Tryz.prog) : True := trivial
theorem farI {P : Program} [Known P] (hP : P = Tryz.prog) (p : VPln) (w a : Int) (hw : has w p.ways.length = true) (h1 : has (p.way w.toNat).1 p.cells.length = true) (h2 : has (p.way w.toNat).2.1 p.cells.length = true) : Fun P 192 [.rp (plnS p), .int .i64 w, .int .i64 a] (.bool (farB p w a)) := by
  refine fun_of (fn := Tryz.f192) (hP ▸ Tryz.func192) (by kernel_rfl) (by kernel_rfl) (by kernel_rfl) (by kernel_rfl) ?_
  have hT := TY_farI hP
  have b := beginsI hP p w hw h1
  have n := endsI hP p w hw h2
  clear hP
  intro hl
  clear hl
  simp only [Tryz.f192, hT, eA, Nat.beq, List.toArray, reduceAdd, reduceLT, reduceLeDiff, reduceToNat]
  unfold farB
  refine Fun.plain (b) rfl rfl rfl rfl ?_; simp only [hT, eN, ↓If_lit, Int.reduceLT, Int.reduceLE, eA, Nat.beq, List.toArray, reduceAdd, reduceLT, reduceLeDiff, reduceToNat]; (try unfold lim); repeat first | ((with_reducible refine And.intro ?_ ?_); (first | omega | exact ⟨by omega, by omega⟩ | rfl)) | intro _
  refine ⟨fun q => ?_, fun q => by rw [q]; rfl⟩
  rw [q]
  refine Fun.plain (n) rfl rfl rfl rfl ?_; simp only [hT, eN, ↓If_lit, Int.reduceLT, Int.reduceLE, eA, Nat.beq, List.toArray, reduceAdd, reduceLT, reduceLeDiff, reduceToNat]; (try unfold lim); repeat first | ((with_reducible refine And.intro ?_ ?_); (first | omega | exact ⟨by omega, by omega⟩ | rfl)) | intro _
end Go.Proofs.YtjlmfcddbcoimaaGreat.C
