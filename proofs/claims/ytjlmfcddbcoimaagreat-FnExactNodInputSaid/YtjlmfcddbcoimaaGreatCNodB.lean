/- What nodes begin with, by both texts. -/
import Derived.Test.YtjlmfcddbcoimaaGreatCNodA
set_option maxRecDepth 100000
set_option maxHeartbeats 4000000
set_option linter.unusedSimpArgs false
set_option linter.unusedVariables false
namespace Go.Proofs.YtjlmfcddbcoimaaGreat.C
open Go Go.Av Go.Proofs
open Nat (reduceAdd reduceLT reduceLeDiff reduceSub)
open Int (reduceToNat)
abbrev zs (n : Nat) : List Int := List.replicate n 0
def stN : VSt := (0, zs 4, zs 8, 0, ())
def celN : VCel := (stN, [], ())
def boxN (d : Int) : VBox := (bif decide (d < 1) || decide (4 < d) then 0 else d, [], ())
def outN (b : Int) : VOut := (bif decide (b < 1) || decide (60000 < b) then 0 else b, 0, 0, 0, ())
def hrdN (n : Int) : VHrd := bif decide (n < 1) || decide (4 < n) then ([], [], ()) else (zs n.toNat, zs n.toNat, ())
theorem not_in (d a b : Int) : (!(decide (a ≤ d) && decide (d ≤ b))) = (decide (d < a) || decide (b < d)) := by
  rw [Bool.eq_iff_iff]; simp; try omega
theorem TY_vmNewI {P : Program} (hP : P = Tryz.prog) : (((P.follows .mixedOrders = true) ∧ (zeroT P 148 = some (((.int .i64 0) :: (.nils :: (.nils :: ((.int .i64 0) :: []))))))) ∧ ((mkT P 33 = some ((1, (8, ((.int .i64 0) :: []))))) ∧ (bldT P 148 = true))) ∧ (((plT P 148 1 = some ((1, 1))) ∧ (plT P 148 2 = some ((2, 1)))) ∧ ((plT P 148 3 = some ((3, 1))) ∧ (tyT P 148 = some ((true, 4))))) := by subst hP; refine ⟨⟨⟨?_, ?_⟩, ⟨?_, ?_⟩⟩, ⟨⟨?_, ?_⟩, ⟨?_, ?_⟩⟩⟩ <;> kernel_rfl
theorem vmNewI {P : Program} [Known P] (hP : P = Tryz.prog) : Fun P 252 [] (.agg (stO stN)) := by
  refine fun_of (fn := Tryz.f252) (hP ▸ Tryz.func252) (by kernel_rfl) (by kernel_rfl) (by kernel_rfl) (by kernel_rfl) ?_
  have hT := TY_vmNewI hP
  have hm : P.follows .mixedOrders = true := by subst hP; kernel_rfl
  clear hP
  intro hl
  clear hl
  simp only [Tryz.f252, hT, eA, Nat.beq, List.toArray, reduceAdd, reduceLT, reduceLeDiff, reduceToNat]
  refine wpc_draw (.alt 0 (.alt 1 (.take 2 (.alt 3 .done .stop)) .stop) (.alt 1 (.alt 0 (.take 2 (.alt 3 .done .stop)) .stop) .stop)) hm (by kernel_rfl) ?_
  simp only [hT, eT, ↓If_lit, PCall, reduceSub, reduceCtorEq, eA, Nat.beq, List.toArray, reduceAdd, reduceLT, reduceLeDiff, reduceToNat]
  have hs : subL [.int .i64 0, .own 1 (List.replicate 4 [.int .i64 0]) [.int .i64 0], .own 1 (List.replicate 8 [.int .i64 0]) [.int .i64 0], .int .i64 0] (stO stN) := ⟨⟨rfl, rfl⟩, ⟨rfl, rfl⟩, ⟨rfl, rfl⟩, ⟨rfl, rfl⟩, trivial⟩
  exact ⟨⟨by omega, by omega, by omega, by omega, by omega, by omega, hs⟩, by omega, by omega, by omega, by omega, by omega, by omega, hs⟩
theorem TY_celNewI {P : Program} (hP : P = Tryz.prog) : ((zeroT P 151 = some (((.int .i64 0) :: (.nils :: (.nils :: ((.int .i64 0) :: (.nils :: []))))))) ∧ (bldT P 151 = true)) ∧ ((plT P 151 0 = some ((0, 4))) ∧ (tyT P 151 = some ((true, 5)))) := by subst hP; refine ⟨⟨?_, ?_⟩, ⟨?_, ?_⟩⟩ <;> kernel_rfl
theorem celNewI {P : Program} [Known P] (hP : P = Tryz.prog) : Fun P 159 [] (.agg (celO celN)) := by
  refine fun_of (fn := Tryz.f159) (hP ▸ Tryz.func159) (by kernel_rfl) (by kernel_rfl) (by kernel_rfl) (by kernel_rfl) ?_
  have hT := TY_celNewI hP
  have e := vmNewI hP
  clear hP
  intro hl
  clear hl
  simp only [stO, stN] at e
  simp only [Tryz.f159, hT, eA, Nat.beq, List.toArray, reduceAdd, reduceLT, reduceLeDiff, reduceToNat]
  refine Fun.plain (e) rfl rfl rfl rfl ?_; simp only [hT, eN, ↓If_lit, Int.reduceLT, Int.reduceLE, eA, Nat.beq, List.toArray, reduceAdd, reduceLT, reduceLeDiff, reduceToNat]; (try unfold lim); repeat first | ((with_reducible refine And.intro ?_ ?_); (first | omega | exact ⟨by omega, by omega⟩ | rfl)) | intro _
  exact ⟨⟨rfl, rfl⟩, ⟨rfl, rfl⟩, ⟨rfl, rfl⟩, ⟨rfl, rfl⟩, rfl, trivial⟩
theorem TY_boxNewI {P : Program} (hP : P = Tryz.prog) : ((zeroT P 163 = some (((.int .i64 0) :: (.nils :: [])))) ∧ (bldT P 163 = true)) ∧ ((tyT P 163 = some ((true, 2))) ∧ (plT P 163 0 = some ((0, 1)))) := by subst hP; refine ⟨⟨?_, ?_⟩, ⟨?_, ?_⟩⟩ <;> kernel_rfl
theorem boxNewI {P : Program} [Known P] (hP : P = Tryz.prog) (d : Int) : Fun P 160 [.int .i64 d] (.agg (boxO (boxN d))) := by
  refine fun_of (fn := Tryz.f160) (hP ▸ Tryz.func160) (by kernel_rfl) (by kernel_rfl) (by kernel_rfl) (by kernel_rfl) ?_
  have hT := TY_boxNewI hP
  clear hP
  intro hl
  clear hl
  simp only [Tryz.f160, boxN, boxO, hT, eA, Nat.beq, List.toArray, reduceAdd, reduceLT, reduceLeDiff, reduceToNat]
  (try unfold lim); repeat first | ((with_reducible refine And.intro ?_ ?_); (first | omega | exact ⟨by omega, by omega⟩ | rfl)) | intro _
  exact ⟨fun q => by rw [q]; rfl, fun q => ⟨fun q2 => by rw [q, q2]; rfl, fun q2 => by rw [q, q2]; rfl⟩⟩
theorem TY_outOpenI {P : Program} (hP : P = Tryz.prog) : ((zeroT P 201 = some (((.int .i64 0) :: ((.int .i64 0) :: ((.int .i64 0) :: ((.int .i64 0) :: [])))))) ∧ (bldT P 201 = true)) ∧ ((tyT P 201 = some ((true, 4))) ∧ (plT P 201 0 = some ((0, 1)))) := by subst hP; refine ⟨⟨?_, ?_⟩, ⟨?_, ?_⟩⟩ <;> kernel_rfl
theorem outOpenI {P : Program} [Known P] (hP : P = Tryz.prog) (d : Int) : Fun P 161 [.int .i64 d] (.agg (outE (outN d))) := by
  refine fun_of (fn := Tryz.f161) (hP ▸ Tryz.func161) (by kernel_rfl) (by kernel_rfl) (by kernel_rfl) (by kernel_rfl) ?_
  have hT := TY_outOpenI hP
  clear hP
  intro hl
  clear hl
  simp only [Tryz.f161, outN, outE, hT, eA, Nat.beq, List.toArray, reduceAdd, reduceLT, reduceLeDiff, reduceToNat]
  (try unfold lim); repeat first | ((with_reducible refine And.intro ?_ ?_); (first | omega | exact ⟨by omega, by omega⟩ | rfl)) | intro _
  exact ⟨fun q => by rw [q]; rfl, fun q => ⟨fun q2 => by rw [q, q2]; rfl, fun q2 => by rw [q, q2]; rfl⟩⟩
theorem TY_hrdNewI {P : Program} (hP : P = Tryz.prog) : ((P.follows .mixedOrders = true) ∧ ((zeroT P 35 = some ((.nils :: (.nils :: [])))) ∧ (bldT P 35 = true))) ∧ (((tyT P 35 = some ((true, 2))) ∧ (mkT P 33 = some ((1, (8, ((.int .i64 0) :: [])))))) ∧ ((plT P 35 0 = some ((0, 1))) ∧ (plT P 35 1 = some ((1, 1))))) := by subst hP; refine ⟨⟨?_, ⟨?_, ?_⟩⟩, ⟨⟨?_, ?_⟩, ⟨?_, ?_⟩⟩⟩ <;> kernel_rfl
theorem hrdNewI {P : Program} [Known P] (hP : P = Tryz.prog) (d : Int) : Fun P 158 [.int .i64 d] (.agg (hrdO (hrdN d))) := by
  refine fun_of (fn := Tryz.f158) (hP ▸ Tryz.func158) (by kernel_rfl) (by kernel_rfl) (by kernel_rfl) (by kernel_rfl) ?_
  have hT := TY_hrdNewI hP
  have hm : P.follows .mixedOrders = true := by subst hP; kernel_rfl
  clear hP
  intro hl
  clear hl
  simp only [Tryz.f158, hrdN, hrdO, hT, eA, Nat.beq, List.toArray, reduceAdd, reduceLT, reduceLeDiff, reduceToNat]
  (try unfold lim); repeat first | ((with_reducible refine And.intro ?_ ?_); (first | omega | exact ⟨by omega, by omega⟩ | rfl)) | intro _
  refine ⟨fun q => by rw [q]; exact ⟨rfl, rfl⟩, fun q => ⟨fun q2 => by rw [q, q2]; exact ⟨rfl, rfl⟩, fun q2 => ?_⟩⟩
  have h1 : 1 ≤ d := by simp at q; omega
  have h4 : d ≤ 4 := by simp at q2; omega
  rw [q, q2]
  simp only [Bool.or_self, cond_false]
  refine wpc_draw (.take 0 (.take 2 (.alt 1 (.alt 3 (.take 4 (.alt 5 .done .stop)) .stop) (.alt 3 (.alt 1 (.take 4 (.alt 5 .done .stop)) .stop) .stop)))) hm (by kernel_rfl) ?_
  have hr : List.replicate d.toNat [AV.int .i64 0] = (zs d.toNat).map intE := by simp only [zs, List.map_replicate]; rfl
  simp only [hT, hr, and_self, eT, ↓If_lit, PCall, reduceSub, reduceCtorEq, eA, Nat.beq, List.toArray, reduceAdd, reduceLT, reduceLeDiff, reduceToNat]
  (try unfold lim); repeat first | ((with_reducible refine And.intro ?_ ?_); (first | omega | exact ⟨by omega, by omega⟩ | rfl)) | intro _
  all_goals (simp only [Int.cast_ofNat_Int]; first | omega | (refine ⟨by omega, ?_⟩; (try unfold lim); repeat first | ((with_reducible refine And.intro ?_ ?_); (first | omega | exact ⟨by omega, by omega⟩ | rfl)) | intro _))
  all_goals (simp only [Int.cast_ofNat_Int]; first | omega | (refine ⟨by omega, ?_⟩; (try unfold lim); repeat first | ((with_reducible refine And.intro ?_ ?_); (first | omega | exact ⟨by omega, by omega⟩ | rfl)) | intro _))
theorem TY_l6Noughts {P : Program} (hP : P = Tryz.prog) : (mkT P 33 = some ((1, (8, ((.int .i64 0) :: []))))) ∧ (lkT P 33 = 1) := by subst hP; refine ⟨?_, ?_⟩ <;> kernel_rfl
theorem l6Noughts {P : Program} [Known P] (hP : P = Tryz.prog) (d : Int) (h2 : d ≤ 1000000) : Fun P 232 [.int .i64 d] (intsO (zs d.toNat)) := by
  refine fun_of (fn := Tryz.f232) (hP ▸ Tryz.func232) (by kernel_rfl) (by kernel_rfl) (by kernel_rfl) (by kernel_rfl) ?_
  have hT := TY_l6Noughts hP
  clear hP
  intro hl
  clear hl
  simp only [Tryz.f232, hT, eA, Nat.beq, List.toArray, reduceAdd, reduceLT, reduceLeDiff, reduceToNat]
  (try unfold lim); repeat first | ((with_reducible refine And.intro ?_ ?_); (first | omega | exact ⟨by omega, by omega⟩ | rfl)) | intro _
  refine wpc_loop {i : Nat // i ≤ d.toNat} (fun i => ⟨[(0, .int .i64 (if d < 0 then d else d - i.1)), (3, .os 0)], [(0, ⟨1, (zs i.1).map intE, iZ, false⟩)], 1⟩) (fun i => d.toNat - i.1) ⟨0, Nat.zero_le _⟩ (Le.of [] (Nat.zero_le _) ?_ ?_ ?_) ?_
  · simp only [eL, eH, eG, leO, Nat.beq, reduceLT]
  · simp only [eL, eH, eG, leO, Nat.beq, reduceLT]; simp
  · simp only [eL, eH, eG, leO, Nat.beq, reduceLT]; rfl
  · rintro ⟨i, hi⟩
    by_cases h0 : d < 0
    · obtain rfl : i = 0 := by omega
      have hf : decide (0 < d) = false := decide_eq_false (by omega)
      have hz : d.toNat = 0 := by omega
      simp only [if_pos h0, hT, hf, hz, ↓If_lit, eA, Nat.beq, List.toArray, reduceAdd, reduceLT, reduceLeDiff, reduceToNat]
      (try unfold lim); repeat first | ((with_reducible refine And.intro ?_ ?_); (first | omega | exact ⟨by omega, by omega⟩ | rfl)) | intro _
    · simp only [if_neg h0]
      by_cases hlt : i < d.toNat
      · have hf : decide (0 < d - (i : Int)) = true := decide_eq_true (by omega)
        simp only [hT, hf, ↓If_lit, eA, Nat.beq, List.toArray, reduceAdd, reduceLT, reduceLeDiff, reduceToNat]
        (try unfold lim); repeat first | ((with_reducible refine And.intro ?_ ?_); (first | omega | exact ⟨by omega, by omega⟩ | rfl)) | intro _
        refine ⟨by simp; omega, ⟨by omega, by omega⟩, ⟨i + 1, hlt⟩, by simp only; omega, Le.of [(0, some 2)] (Nat.zero_le _) ?_ ?_ ?_⟩
        · simp only [eL, eH, eG, leO, Nat.beq, reduceLT]
        · simp only [if_neg h0, eL, eH, eG, leO, Nat.beq, reduceLT]; omega
        · simp only [eL, eH, eG, leO, Nat.beq, reduceLT]; simp [zs, List.replicate_succ', intE]
      · obtain rfl : i = d.toNat := by omega
        have hf : decide (0 < d - (d.toNat : Int)) = false := decide_eq_false (by omega)
        simp only [hT, hf, ↓If_lit, eA, Nat.beq, List.toArray, reduceAdd, reduceLT, reduceLeDiff, reduceToNat]
        (try unfold lim); repeat first | ((with_reducible refine And.intro ?_ ?_); (first | omega | exact ⟨by omega, by omega⟩ | rfl)) | intro _
theorem TY_vmNewS {P : Program} (hP : P = Tryz.prog) : ((zeroT P 148 = some (((.int .i64 0) :: (.nils :: (.nils :: ((.int .i64 0) :: [])))))) ∧ (bldT P 148 = true)) ∧ ((plT P 148 1 = some ((1, 1))) ∧ ((plT P 148 2 = some ((2, 1))) ∧ (tyT P 148 = some ((true, 4))))) := by subst hP; refine ⟨⟨?_, ?_⟩, ⟨?_, ⟨?_, ?_⟩⟩⟩ <;> kernel_rfl
theorem vmNewS {P : Program} [Known P] (hP : P = Tryz.prog) : Fun P 233 [] (.agg (stO stN)) := by
  refine fun_of (fn := Tryz.f233) (hP ▸ Tryz.func233) (by kernel_rfl) (by kernel_rfl) (by kernel_rfl) (by kernel_rfl) ?_
  have hT := TY_vmNewS hP
  have e1 := l6Noughts hP 4 (by omega)
  have e2 := l6Noughts hP 8 (by omega)
  clear hP
  intro hl
  clear hl
  simp only [Tryz.f233, hT, eA, Nat.beq, List.toArray, reduceAdd, reduceLT, reduceLeDiff, reduceToNat]
  refine Fun.plain (e1) rfl rfl rfl rfl ?_; simp only [hT, eN, ↓If_lit, Int.reduceLT, Int.reduceLE, eA, Nat.beq, List.toArray, reduceAdd, reduceLT, reduceLeDiff, reduceToNat]; (try unfold lim); repeat first | ((with_reducible refine And.intro ?_ ?_); (first | omega | exact ⟨by omega, by omega⟩ | rfl)) | intro _
  refine Fun.plain (e2) rfl rfl rfl rfl ?_; simp only [hT, eN, ↓If_lit, Int.reduceLT, Int.reduceLE, eA, Nat.beq, List.toArray, reduceAdd, reduceLT, reduceLeDiff, reduceToNat]; (try unfold lim); repeat first | ((with_reducible refine And.intro ?_ ?_); (first | omega | exact ⟨by omega, by omega⟩ | rfl)) | intro _
  exact ⟨⟨rfl, rfl⟩, ⟨rfl, rfl⟩, ⟨rfl, rfl⟩, ⟨rfl, rfl⟩, trivial⟩
theorem TY_celNewS {P : Program} (hP : P = Tryz.prog) : ((zeroT P 151 = some (((.int .i64 0) :: (.nils :: (.nils :: ((.int .i64 0) :: (.nils :: []))))))) ∧ (bldT P 151 = true)) ∧ ((plT P 151 0 = some ((0, 4))) ∧ (tyT P 151 = some ((true, 5)))) := by subst hP; refine ⟨⟨?_, ?_⟩, ⟨?_, ?_⟩⟩ <;> kernel_rfl
theorem celNewS {P : Program} [Known P] (hP : P = Tryz.prog) : Fun P 150 [] (.agg (celO celN)) := by
  refine fun_of (fn := Tryz.f150) (hP ▸ Tryz.func150) (by kernel_rfl) (by kernel_rfl) (by kernel_rfl) (by kernel_rfl) ?_
  have hT := TY_celNewS hP
  have e := vmNewS hP
  clear hP
  intro hl
  clear hl
  simp only [stO, stN] at e
  simp only [Tryz.f150, hT, eA, Nat.beq, List.toArray, reduceAdd, reduceLT, reduceLeDiff, reduceToNat]
  refine Fun.plain (e) rfl rfl rfl rfl ?_; simp only [hT, eN, ↓If_lit, Int.reduceLT, Int.reduceLE, eA, Nat.beq, List.toArray, reduceAdd, reduceLT, reduceLeDiff, reduceToNat]; (try unfold lim); repeat first | ((with_reducible refine And.intro ?_ ?_); (first | omega | exact ⟨by omega, by omega⟩ | rfl)) | intro _
  exact ⟨⟨rfl, rfl⟩, ⟨rfl, rfl⟩, ⟨rfl, rfl⟩, ⟨rfl, rfl⟩, rfl, trivial⟩
theorem TY_boxNewS {P : Program} (hP : P = Tryz.prog) : ((zeroT P 163 = some (((.int .i64 0) :: (.nils :: [])))) ∧ (bldT P 163 = true)) ∧ ((tyT P 163 = some ((true, 2))) ∧ (plT P 163 0 = some ((0, 1)))) := by subst hP; refine ⟨⟨?_, ?_⟩, ⟨?_, ?_⟩⟩ <;> kernel_rfl
theorem boxNewS {P : Program} [Known P] (hP : P = Tryz.prog) (d : Int) : Fun P 151 [.int .i64 d] (.agg (boxO (boxN d))) := by
  refine fun_of (fn := Tryz.f151) (hP ▸ Tryz.func151) (by kernel_rfl) (by kernel_rfl) (by kernel_rfl) (by kernel_rfl) ?_
  have hT := TY_boxNewS hP
  have e := l1In hP d 1 4
  rw [show (decide (1 ≤ d) && decide (d ≤ 4)) = !(decide (d < 1) || decide (4 < d)) by rw [← not_in, Bool.not_not]] at e
  clear hP
  intro hl
  clear hl
  simp only [Tryz.f151, boxN, boxO, hT, eA, Nat.beq, List.toArray, reduceAdd, reduceLT, reduceLeDiff, reduceToNat]
  refine Fun.plain (e) rfl rfl rfl rfl ?_; simp only [hT, eN, ↓If_lit, Int.reduceLT, Int.reduceLE, eA, Nat.beq, List.toArray, reduceAdd, reduceLT, reduceLeDiff, reduceToNat]; (try unfold lim); repeat first | ((with_reducible refine And.intro ?_ ?_); (first | omega | exact ⟨by omega, by omega⟩ | rfl)) | intro _
  generalize (decide (d < 1) || decide (4 < d)) = q
  cases q
  · simp only [Bool.not_false, Bool.not_true, cond_false, cond_true, ↓If_lit, eA, Nat.beq, List.toArray, reduceAdd, reduceLT, reduceLeDiff, reduceToNat]
  · simp only [Bool.not_false, Bool.not_true, cond_false, cond_true, ↓If_lit, eA, Nat.beq, List.toArray, reduceAdd, reduceLT, reduceLeDiff, reduceToNat]
theorem TY_outOpenS {P : Program} (hP : P = Tryz.prog) : ((zeroT P 201 = some (((.int .i64 0) :: ((.int .i64 0) :: ((.int .i64 0) :: ((.int .i64 0) :: [])))))) ∧ (bldT P 201 = true)) ∧ ((tyT P 201 = some ((true, 4))) ∧ (plT P 201 0 = some ((0, 1)))) := by subst hP; refine ⟨⟨?_, ?_⟩, ⟨?_, ?_⟩⟩ <;> kernel_rfl
theorem outOpenS {P : Program} [Known P] (hP : P = Tryz.prog) (d : Int) : Fun P 152 [.int .i64 d] (.agg (outE (outN d))) := by
  refine fun_of (fn := Tryz.f152) (hP ▸ Tryz.func152) (by kernel_rfl) (by kernel_rfl) (by kernel_rfl) (by kernel_rfl) ?_
  have hT := TY_outOpenS hP
  have e := l1In hP d 1 60000
  rw [show (decide (1 ≤ d) && decide (d ≤ 60000)) = !(decide (d < 1) || decide (60000 < d)) by rw [← not_in, Bool.not_not]] at e
  clear hP
  intro hl
  clear hl
  simp only [Tryz.f152, outN, outE, hT, eA, Nat.beq, List.toArray, reduceAdd, reduceLT, reduceLeDiff, reduceToNat]
  refine Fun.plain (e) rfl rfl rfl rfl ?_; simp only [hT, eN, ↓If_lit, Int.reduceLT, Int.reduceLE, eA, Nat.beq, List.toArray, reduceAdd, reduceLT, reduceLeDiff, reduceToNat]; (try unfold lim); repeat first | ((with_reducible refine And.intro ?_ ?_); (first | omega | exact ⟨by omega, by omega⟩ | rfl)) | intro _
  generalize (decide (d < 1) || decide (60000 < d)) = q
  cases q
  · simp only [Bool.not_false, Bool.not_true, cond_false, cond_true, ↓If_lit, eA, Nat.beq, List.toArray, reduceAdd, reduceLT, reduceLeDiff, reduceToNat]
  · simp only [Bool.not_false, Bool.not_true, cond_false, cond_true, ↓If_lit, eA, Nat.beq, List.toArray, reduceAdd, reduceLT, reduceLeDiff, reduceToNat]
theorem TY_hrdNewS {P : Program} (hP : P = Tryz.prog) : ((zeroT P 35 = some ((.nils :: (.nils :: [])))) ∧ (bldT P 35 = true)) ∧ ((tyT P 35 = some ((true, 2))) ∧ ((plT P 35 0 = some ((0, 1))) ∧ (plT P 35 1 = some ((1, 1))))) := by subst hP; refine ⟨⟨?_, ?_⟩, ⟨?_, ⟨?_, ?_⟩⟩⟩ <;> kernel_rfl
theorem hrdNewS {P : Program} [Known P] (hP : P = Tryz.prog) (d : Int) : Fun P 149 [.int .i64 d] (.agg (hrdO (hrdN d))) := by
  refine fun_of (fn := Tryz.f149) (hP ▸ Tryz.func149) (by kernel_rfl) (by kernel_rfl) (by kernel_rfl) (by kernel_rfl) ?_
  have hT := TY_hrdNewS hP
  have e := l1In hP d 1 4
  have e2 := fun h => l6Noughts hP d h
  clear hP
  intro hl
  clear hl
  simp only [Tryz.f149, hrdN, hrdO, hT, eA, Nat.beq, List.toArray, reduceAdd, reduceLT, reduceLeDiff, reduceToNat]
  refine Fun.plain (e) rfl rfl rfl rfl ?_; simp only [hT, eN, ↓If_lit, Int.reduceLT, Int.reduceLE, eA, Nat.beq, List.toArray, reduceAdd, reduceLT, reduceLeDiff, reduceToNat]; (try unfold lim); repeat first | ((with_reducible refine And.intro ?_ ?_); (first | omega | exact ⟨by omega, by omega⟩ | rfl)) | intro _
  rw [not_in]
  refine ⟨fun q => ?_, fun q => ?_⟩
  · rw [q]; trivial
  · rw [q]
    have : d ≤ 4 := by simp at q; omega
    have e2 := e2 (by omega)
    refine Fun.plain (e2) rfl rfl rfl rfl ?_; simp only [hT, eN, ↓If_lit, Int.reduceLT, Int.reduceLE, eA, Nat.beq, List.toArray, reduceAdd, reduceLT, reduceLeDiff, reduceToNat]; (try unfold lim); repeat first | ((with_reducible refine And.intro ?_ ?_); (first | omega | exact ⟨by omega, by omega⟩ | rfl)) | intro _
    refine Fun.plain (e2) rfl rfl rfl rfl ?_; simp only [hT, eN, ↓If_lit, Int.reduceLT, Int.reduceLE, eA, Nat.beq, List.toArray, reduceAdd, reduceLT, reduceLeDiff, reduceToNat]; (try unfold lim); repeat first | ((with_reducible refine And.intro ?_ ?_); (first | omega | exact ⟨by omega, by omega⟩ | rfl)) | intro _
end Go.Proofs.YtjlmfcddbcoimaaGreat.C
