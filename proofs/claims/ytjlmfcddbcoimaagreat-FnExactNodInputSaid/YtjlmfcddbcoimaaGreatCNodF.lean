/- A node that has never been up, by both texts. -/
import Derived.Test.YtjlmfcddbcoimaaGreatCNodD
import Derived.Test.YtjlmfcddbcoimaaGreatCPlnK
set_option maxRecDepth 100000
set_option maxHeartbeats 4000000
set_option linter.unusedSimpArgs false
set_option linter.unusedVariables false
namespace Go.Proofs.YtjlmfcddbcoimaaGreat.C
open Go Go.Av Go.Proofs
open Nat (reduceAdd reduceLT reduceLeDiff reduceSub)
open Int (reduceToNat)
theorem nodes_of {p : VPln} (h : (res p).isNone = true) : 1 ≤ p.1 ∧ p.1 ≤ 4 := by
  have h : res p = none := by simpa using h
  unfold res at h
  rw [List.findSome?_eq_none_iff] at h
  have h0 := h 0 (by simp)
  simp only [chk] at h0
  have : (decide (p.1 < 1) || decide (4 < p.1)) = false := by
    cases hb : (decide (p.1 < 1) || decide (4 < p.1)) with
    | false => rfl
    | true => rw [hb] at h0; exact absurd h0 (by simp [when])
  simp at this
  omega
theorem naR_int (l : List Int) : naR (l.map intE) = true := naR_map intE (fun _ => rfl) l
theorem naR_msg (l : List (List UInt8)) : naR (l.map msgO) = true := naR_map msgO (fun m => by simp only [msgO, naL, AV.na, naR_byt, Bool.and_self]) l
theorem naR_cel (l : List VCel) : naR (l.map celO) = true := naR_map celO (fun m => by simp only [celO, naL, AV.na, naR_byt, naR_int, Bool.and_self]) l
theorem naR_box (l : List VBox) : naR (l.map boxO) = true := naR_map boxO (fun m => by simp only [boxO, naL, AV.na, naR_msg, Bool.and_self]) l
theorem naR_out (l : List VOut) : naR (l.map outE) = true := naR_map outE (fun _ => rfl) l
theorem naR_inn (l : List VInn) : naR (l.map innE) = true := naR_map innE (fun _ => rfl) l
theorem nod_na (n : VNod) : (AV.agg (nodO n)).na = true := by
  simp only [nodO, AV.na, naL, naR_int, naR_cel, naR_box, naR_out, naR_inn, Bool.and_self]
theorem nod_sub (n : VNod) : subL [.bool n.up, .int .i64 n.boot, .int .i64 n.hello, .own 5 (n.cells.map celO) celZ, .own 2 (n.out.map boxO) boxZ, .own 2 (n.inn.map boxO) boxZ, .own 4 (n.outs.map outE) outZ, .own 3 (n.inns.map innE) innZ, intsO n.heard.1, intsO n.heard.2.1] (nodO n) :=
  ⟨rfl, ⟨rfl, rfl⟩, ⟨rfl, rfl⟩, ⟨rfl, rfl⟩, ⟨rfl, rfl⟩, ⟨rfl, rfl⟩, ⟨rfl, rfl⟩, ⟨rfl, rfl⟩, ⟨rfl, rfl⟩, ⟨rfl, rfl⟩, trivial⟩
def nod0 : VNod := (false, 0, 0, [], [], [], [], [], ([], [], ()), ())
def newN (p : VPln) (at_ : Int) : VNod := bif (res p).isNone && has at_ p.1 then begN p 0 else nod0
theorem nod0_sub : subL [.bool false, .int .i64 0, .int .i64 0, .nils, .nils, .nils, .nils, .nils, .nils, .nils] (nodO nod0) :=
  ⟨rfl, ⟨rfl, rfl⟩, ⟨rfl, rfl⟩, rfl, rfl, rfl, rfl, rfl, rfl, rfl, trivial⟩
theorem TY_nodNewI {P : Program} (hP : P = Tryz.prog) : ((zeroT P 37 = some (((.bool false) :: ((.int .i64 0) :: ((.int .i64 0) :: (.nils :: (.nils :: (.nils :: (.nils :: (.nils :: (.nils :: (.nils :: [])))))))))))) ∧ ((tyT P 43 = some ((true, 7))) ∧ (fldT P 43 0 = some ((0, (false, 1)))))) ∧ ((tyT P 3 = some ((false, 1))) ∧ ((bldT P 37 = true) ∧ (tyT P 37 = some ((true, 10))))) := by subst hP; refine ⟨⟨?_, ⟨?_, ?_⟩⟩, ⟨?_, ⟨?_, ?_⟩⟩⟩ <;> kernel_rfl
theorem nodNewI {P : Program} [Known P] (hP : P = Tryz.prog) (p : VPln) (hs : Sz p) (at_ : Int) : Fun P 16 [.agg (plnS p), .int .i64 at_] (.agg (nodO (newN p at_))) := by
  refine fun_of (fn := Tryz.f16) (hP ▸ Tryz.func16) (by kernel_rfl) (by kernel_rfl) (by kernel_rfl) (by kernel_rfl) ?_
  have hT := TY_nodNewI hP
  have oi := plnOkI hP p hs
  have hh := plnHas hP at_ p.1
  have bg := nodBegin hP p hs 0
  clear hP
  intro hl
  clear hl
  simp only [plnS] at oi bg
  simp only [nodO] at bg
  simp only [plnS, Tryz.f16, hT, eA, Nat.beq, List.toArray, reduceAdd, reduceLT, reduceLeDiff, reduceToNat]
  unfold newN
  refine Fun.plain (oi) rfl rfl rfl rfl ?_; simp only [hT, eN, ↓If_lit, Int.reduceLT, Int.reduceLE, eA, Nat.beq, List.toArray, reduceAdd, reduceLT, reduceLeDiff, reduceToNat]; (try unfold lim); repeat first | ((with_reducible refine And.intro ?_ ?_); (first | omega | exact ⟨by omega, by omega⟩ | rfl)) | intro _
  refine ⟨fun q => ?_, fun q => ?_⟩
  · have q : (res p).isNone = false := by simpa using q
    rw [q]
    exact nod0_sub
  · have q : (res p).isNone = true := by simpa using q
    rw [q]
    refine Fun.plain (hh) rfl rfl rfl rfl ?_; simp only [hT, eN, ↓If_lit, Int.reduceLT, Int.reduceLE, eA, Nat.beq, List.toArray, reduceAdd, reduceLT, reduceLeDiff, reduceToNat]; (try unfold lim); repeat first | ((with_reducible refine And.intro ?_ ?_); (first | omega | exact ⟨by omega, by omega⟩ | rfl)) | intro _
    refine ⟨fun q1 => ?_, fun q1 => ?_⟩
    · have q1 : has at_ p.1 = false := by simpa using q1
      rw [q1]
      exact nod0_sub
    · have q1 : has at_ p.1 = true := by simpa using q1
      rw [q1]
      simp only [Bool.and_self, cond_true]
      refine Fun.lent bg (by rfl) (by rfl) rfl rfl (nod_na _) ?_; simp only [hT, eN, ↓If_lit, Int.reduceLT, Int.reduceLE, eA, Nat.beq, List.toArray, reduceAdd, reduceLT, reduceLeDiff, reduceToNat]; (try unfold lim); repeat first | ((with_reducible refine And.intro ?_ ?_); (first | omega | exact ⟨by omega, by omega⟩ | rfl)) | intro _
      exact nod_sub _
theorem TY_nodNewS {P : Program} (hP : P = Tryz.prog) : ((zeroT P 37 = some (((.bool false) :: ((.int .i64 0) :: ((.int .i64 0) :: (.nils :: (.nils :: (.nils :: (.nils :: (.nils :: (.nils :: (.nils :: [])))))))))))) ∧ ((tyT P 43 = some ((true, 7))) ∧ (fldT P 43 0 = some ((0, (false, 1)))))) ∧ ((tyT P 3 = some ((false, 1))) ∧ ((bldT P 37 = true) ∧ (tyT P 37 = some ((true, 10))))) := by subst hP; refine ⟨⟨?_, ⟨?_, ?_⟩⟩, ⟨?_, ⟨?_, ?_⟩⟩⟩ <;> kernel_rfl
theorem nodNewS {P : Program} [Known P] (hP : P = Tryz.prog) (p : VPln) (hs : Sz p) (at_ : Int) : Fun P 14 [.agg (plnS p), .int .i64 at_] (.agg (nodO (newN p at_))) := by
  refine fun_of (fn := Tryz.f14) (hP ▸ Tryz.func14) (by kernel_rfl) (by kernel_rfl) (by kernel_rfl) (by kernel_rfl) ?_
  have hT := TY_nodNewS hP
  have oi := plnOkS hP p hs
  have hh := l1In hP at_ 0 (p.1 - 1)
  have bg := blankS hP p hs 0
  clear hP
  intro hl
  clear hl
  simp only [plnS] at oi bg
  simp only [nodO] at bg
  simp only [plnS, Tryz.f14, hT, eA, Nat.beq, List.toArray, reduceAdd, reduceLT, reduceLeDiff, reduceToNat]
  unfold newN
  refine Fun.plain (oi) rfl rfl rfl rfl ?_; simp only [hT, eN, ↓If_lit, Int.reduceLT, Int.reduceLE, eA, Nat.beq, List.toArray, reduceAdd, reduceLT, reduceLeDiff, reduceToNat]; (try unfold lim); repeat first | ((with_reducible refine And.intro ?_ ?_); (first | omega | exact ⟨by omega, by omega⟩ | rfl)) | intro _
  refine ⟨fun q => ?_, fun q => ?_⟩
  · have q : (res p).isNone = false := by simpa using q
    rw [q]
    exact nod0_sub
  · have q : (res p).isNone = true := by simpa using q
    have hn := nodes_of q
    rw [q]
    (try unfold lim); repeat first | ((with_reducible refine And.intro ?_ ?_); (first | omega | exact ⟨by omega, by omega⟩ | rfl)) | intro _
    refine Fun.plain (hh) rfl rfl rfl rfl ?_; simp only [hT, eN, ↓If_lit, Int.reduceLT, Int.reduceLE, eA, Nat.beq, List.toArray, reduceAdd, reduceLT, reduceLeDiff, reduceToNat]; (try unfold lim); repeat first | ((with_reducible refine And.intro ?_ ?_); (first | omega | exact ⟨by omega, by omega⟩ | rfl)) | intro _
    rw [show (decide (0 ≤ at_) && decide (at_ ≤ p.1 - 1)) = has at_ p.1 from by unfold has; rw [show decide (at_ ≤ p.1 - 1) = decide (at_ < p.1) from decide_eq_decide.2 (by omega)]]
    refine ⟨fun q1 => ?_, fun q1 => ?_⟩
    · have q1 : has at_ p.1 = false := by simpa using q1
      rw [q1]
      exact nod0_sub
    · have q1 : has at_ p.1 = true := by simpa using q1
      rw [q1]
      simp only [Bool.and_self, cond_true]
      refine Fun.plain (bg) rfl rfl rfl rfl ?_; simp only [hT, eN, ↓If_lit, Int.reduceLT, Int.reduceLE, eA, Nat.beq, List.toArray, reduceAdd, reduceLT, reduceLeDiff, reduceToNat]; (try unfold lim); repeat first | ((with_reducible refine And.intro ?_ ?_); (first | omega | exact ⟨by omega, by omega⟩ | rfl)) | intro _
      exact nod_sub _
end Go.Proofs.YtjlmfcddbcoimaaGreat.C
