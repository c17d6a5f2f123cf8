/- The checks of a plan, by the program's text: what is wrong first. -/
import Derived.Test.YtjlmfcddbcoimaaGreatCPlnD
set_option maxRecDepth 100000
set_option linter.unusedSimpArgs false
set_option linter.unusedVariables false
namespace Go.Proofs.YtjlmfcddbcoimaaGreat.C
open Go Go.Av Go.Proofs
open Nat (reduceAdd reduceLT reduceLeDiff reduceSub)
open Int (reduceToNat)
/-- What each check tells. -/
def chk (p : VPln) : Nat → Option (Nat × Nat)
  | 0 => when 1 (decide (p.1 < 1) || decide (4 < p.1))
  | 1 => when 2 (decide (p.2.1 < 0) || decide (4294967295 < p.2.1))
  | 2 => when 3 (decide (p.2.2.1 < 1) || decide (16 < p.2.2.1))
  | 3 => when 4 (decide ((p.cells.length : Int) < 1) || decide (8 < (p.cells.length : Int)))
  | 4 => first 5 p.cells.length (bad5 p)
  | 5 => when 6 (decide (10 < (p.ways.length : Int)))
  | 6 => first 7 p.ways.length (bad7 p)
  | 7 => first 8 p.ways.length (bad8 p)
  | 8 => when 9 (decide ((p.slots.length : Int) < 1) || decide (12 < (p.slots.length : Int)))
  | 9 => first 10 p.slots.length (bad10 p)
  | 10 => first 11 p.1.toNat (bad11 p)
  | 11 => first 12 p.ways.length (bad12 p)
  | 12 => bif decide ((p.turns.length : Int) = p.1) then first 13 p.1.toNat (bad13 p) else some (13, 0)
  | 13 => first 14 p.cells.length (bad14 p)
  | 14 => first 15 p.cells.length (bad15 p)
  | _ => none
theorem first_ok {c n : Nat} {bad : Nat → Bool} (h : first c n bad = none) : ∀ j, j < n → bad j = false := by
  refine fb_ok ?_
  intro hlt
  unfold first at h
  rw [if_pos hlt] at h
  cases h
theorem when_ok {c : Nat} {b : Bool} (h : when c b = none) : b = false := by
  cases b with
  | false => rfl
  | true => cases h
theorem chk_nodes {p : VPln} (h : chk p 0 = none) : ∃ n : Nat, p.1 = n ∧ 1 ≤ n ∧ n ≤ 4 := by
  have := when_ok h
  simp only [Bool.or_eq_false_iff, decide_eq_false_iff_not] at this
  exact ⟨p.1.toNat, by omega, by omega, by omega⟩
theorem bad5_has {p : VPln} {k : Nat} (h : bad5 p k = false) : has (p.cell k).1 p.1 = true ∧ lblOk (p.cell k).2.1.1 (p.cell k).2.1.2.1 = true ∧ codOk (p.cell k).2.2.2.1 = true := by
  unfold bad5 at h
  simpa using h
theorem bad7_has {p : VPln} {k : Nat} (h : bad7 p k = false) : has (p.way k).1 p.cells.length = true ∧ has (p.way k).2.1 p.cells.length = true := by
  unfold bad7 at h
  simp only [Bool.or_eq_false_iff, Bool.not_eq_false'] at h
  exact ⟨h.1, h.2.1⟩
theorem chk_turns {p : VPln} (h : chk p 12 = none) : (p.turns.length : Int) = p.1 := by
  unfold chk at h
  by_cases e : (p.turns.length : Int) = p.1
  · exact e
  · rw [decide_eq_false e] at h; cases h
theorem chk12 (p : VPln) : chk p 12 = bif decide ((p.turns.length : Int) = p.1) then first 13 p.1.toNat (bad13 p) else some (13, 0) := rfl
abbrev Chk (P : Program) [Known P] (f : FuncId) (p : VPln) (i : Nat) : Prop := FunX P f 0 [.agg [.rp (plnS p)]] [] (fun r h => r = flt (chk p i) ∧ h = [])
theorem TY_m0 {P : Program} (hP : P = Tryz.prog) : ((fldT P 268 0 = some ((0, (false, 1)))) ∧ (tyT P 105 = some ((false, 1)))) ∧ ((fldT P 43 0 = some ((0, (false, 1)))) ∧ (tyT P 3 = some ((false, 1)))) := by subst hP; refine ⟨⟨?_, ?_⟩, ⟨?_, ?_⟩⟩ <;> kernel_rfl
theorem m0 {P : Program} [Known P] (hP : P = Tryz.prog) (p : VPln) (hs : Sz p) (hok : ∀ i, i < 0 → chk p i = none) : Chk P 237 p 0 := by
  refine fun_ofX (fn := Tryz.f237) (hP ▸ Tryz.func237) (by kernel_rfl) (by kernel_rfl) (by kernel_rfl) (by kernel_rfl) ?_
  have hT := TY_m0 hP
  have hm : P.follows .mixedOrders = true := by subst hP; kernel_rfl
  have wh := @plnWhen P _ hP
  have hc := hs.c
  have hw := hs.w
  have hz := hs.s
  clear hP
  intro hl
  clear hl
  simp only [plnS, Tryz.f237, hT, eA, Nat.beq, List.toArray, reduceAdd, reduceLT, reduceLeDiff, reduceToNat]
  (try unfold lim); repeat first | ((with_reducible refine And.intro ?_ ?_); (first | omega | exact ⟨by omega, by omega⟩ | rfl)) | intro _
  refine ⟨fun q => ?_, fun q => ?_⟩
  · have e : chk p 0 = when 1 true := by unfold chk; rw [q]; rfl
    refine FunX.plain (wh true 1 (by omega)) rfl rfl ?_
    rintro _ rfl
    rw [← e]
    generalize chk p 0 = o at *
    cases o with
    | none =>
      refine ⟨rfl, rfl, ?_⟩
      simp only [flt, hT, eA, Nat.beq, List.toArray, reduceAdd, reduceLT, reduceLeDiff, reduceToNat]
      first | exact ⟨_, _, ⟨rfl, rfl⟩, rfl, trivial⟩ | exact ⟨_, _, ⟨rfl, rfl⟩, trivial, trivial⟩
    | some x =>
      obtain ⟨c, k⟩ := x
      refine ⟨rfl, rfl, ?_⟩
      simp only [flt, hT, eA, Nat.beq, List.toArray, reduceAdd, reduceLT, reduceLeDiff, reduceToNat]
      refine ⟨_, _, ⟨rfl, rfl⟩, ?_, trivial⟩
      simp only [flt, eA, Nat.beq, List.toArray, reduceAdd, reduceLT, reduceLeDiff, reduceToNat]
  · have e : chk p 0 = when 1 (decide (4 < p.1)) := by unfold chk; rw [q]; rfl
    (try unfold lim); repeat first | ((with_reducible refine And.intro ?_ ?_); (first | omega | exact ⟨by omega, by omega⟩ | rfl)) | intro _
    refine FunX.plain (wh (decide (4 < p.1)) 1 (by omega)) rfl rfl ?_
    rintro _ rfl
    rw [← e]
    generalize chk p 0 = o at *
    cases o with
    | none =>
      refine ⟨rfl, rfl, ?_⟩
      simp only [flt, hT, eA, Nat.beq, List.toArray, reduceAdd, reduceLT, reduceLeDiff, reduceToNat]
      first | exact ⟨_, _, ⟨rfl, rfl⟩, rfl, trivial⟩ | exact ⟨_, _, ⟨rfl, rfl⟩, trivial, trivial⟩
    | some x =>
      obtain ⟨c, k⟩ := x
      refine ⟨rfl, rfl, ?_⟩
      simp only [flt, hT, eA, Nat.beq, List.toArray, reduceAdd, reduceLT, reduceLeDiff, reduceToNat]
      refine ⟨_, _, ⟨rfl, rfl⟩, ?_, trivial⟩
      simp only [flt, eA, Nat.beq, List.toArray, reduceAdd, reduceLT, reduceLeDiff, reduceToNat]
theorem TY_m1 {P : Program} (hP : P = Tryz.prog) : ((fldT P 268 0 = some ((0, (false, 1)))) ∧ (tyT P 105 = some ((false, 1)))) ∧ ((fldT P 43 1 = some ((1, (false, 1)))) ∧ (tyT P 3 = some ((false, 1)))) := by subst hP; refine ⟨⟨?_, ?_⟩, ⟨?_, ?_⟩⟩ <;> kernel_rfl
theorem m1 {P : Program} [Known P] (hP : P = Tryz.prog) (p : VPln) (hs : Sz p) (hok : ∀ i, i < 1 → chk p i = none) : Chk P 238 p 1 := by
  refine fun_ofX (fn := Tryz.f238) (hP ▸ Tryz.func238) (by kernel_rfl) (by kernel_rfl) (by kernel_rfl) (by kernel_rfl) ?_
  have hT := TY_m1 hP
  have hm : P.follows .mixedOrders = true := by subst hP; kernel_rfl
  have wh := @plnWhen P _ hP
  have hc := hs.c
  have hw := hs.w
  have hz := hs.s
  clear hP
  intro hl
  clear hl
  simp only [plnS, Tryz.f238, hT, eA, Nat.beq, List.toArray, reduceAdd, reduceLT, reduceLeDiff, reduceToNat]
  (try unfold lim); repeat first | ((with_reducible refine And.intro ?_ ?_); (first | omega | exact ⟨by omega, by omega⟩ | rfl)) | intro _
  refine ⟨fun q => ?_, fun q => ?_⟩
  · have e : chk p 1 = when 2 true := by unfold chk; rw [q]; rfl
    refine FunX.plain (wh true 2 (by omega)) rfl rfl ?_
    rintro _ rfl
    rw [← e]
    generalize chk p 1 = o at *
    cases o with
    | none =>
      refine ⟨rfl, rfl, ?_⟩
      simp only [flt, hT, eA, Nat.beq, List.toArray, reduceAdd, reduceLT, reduceLeDiff, reduceToNat]
      first | exact ⟨_, _, ⟨rfl, rfl⟩, rfl, trivial⟩ | exact ⟨_, _, ⟨rfl, rfl⟩, trivial, trivial⟩
    | some x =>
      obtain ⟨c, k⟩ := x
      refine ⟨rfl, rfl, ?_⟩
      simp only [flt, hT, eA, Nat.beq, List.toArray, reduceAdd, reduceLT, reduceLeDiff, reduceToNat]
      refine ⟨_, _, ⟨rfl, rfl⟩, ?_, trivial⟩
      simp only [flt, eA, Nat.beq, List.toArray, reduceAdd, reduceLT, reduceLeDiff, reduceToNat]
  · have e : chk p 1 = when 2 (decide (4294967295 < p.2.1)) := by unfold chk; rw [q]; rfl
    (try unfold lim); repeat first | ((with_reducible refine And.intro ?_ ?_); (first | omega | exact ⟨by omega, by omega⟩ | rfl)) | intro _
    refine FunX.plain (wh (decide (4294967295 < p.2.1)) 2 (by omega)) rfl rfl ?_
    rintro _ rfl
    rw [← e]
    generalize chk p 1 = o at *
    cases o with
    | none =>
      refine ⟨rfl, rfl, ?_⟩
      simp only [flt, hT, eA, Nat.beq, List.toArray, reduceAdd, reduceLT, reduceLeDiff, reduceToNat]
      first | exact ⟨_, _, ⟨rfl, rfl⟩, rfl, trivial⟩ | exact ⟨_, _, ⟨rfl, rfl⟩, trivial, trivial⟩
    | some x =>
      obtain ⟨c, k⟩ := x
      refine ⟨rfl, rfl, ?_⟩
      simp only [flt, hT, eA, Nat.beq, List.toArray, reduceAdd, reduceLT, reduceLeDiff, reduceToNat]
      refine ⟨_, _, ⟨rfl, rfl⟩, ?_, trivial⟩
      simp only [flt, eA, Nat.beq, List.toArray, reduceAdd, reduceLT, reduceLeDiff, reduceToNat]
theorem TY_m2 {P : Program} (hP : P = Tryz.prog) : ((fldT P 268 0 = some ((0, (false, 1)))) ∧ (tyT P 105 = some ((false, 1)))) ∧ ((fldT P 43 2 = some ((2, (false, 1)))) ∧ (tyT P 3 = some ((false, 1)))) := by subst hP; refine ⟨⟨?_, ?_⟩, ⟨?_, ?_⟩⟩ <;> kernel_rfl
theorem m2 {P : Program} [Known P] (hP : P = Tryz.prog) (p : VPln) (hs : Sz p) (hok : ∀ i, i < 2 → chk p i = none) : Chk P 239 p 2 := by
  refine fun_ofX (fn := Tryz.f239) (hP ▸ Tryz.func239) (by kernel_rfl) (by kernel_rfl) (by kernel_rfl) (by kernel_rfl) ?_
  have hT := TY_m2 hP
  have hm : P.follows .mixedOrders = true := by subst hP; kernel_rfl
  have wh := @plnWhen P _ hP
  have hc := hs.c
  have hw := hs.w
  have hz := hs.s
  clear hP
  intro hl
  clear hl
  simp only [plnS, Tryz.f239, hT, eA, Nat.beq, List.toArray, reduceAdd, reduceLT, reduceLeDiff, reduceToNat]
  (try unfold lim); repeat first | ((with_reducible refine And.intro ?_ ?_); (first | omega | exact ⟨by omega, by omega⟩ | rfl)) | intro _
  refine ⟨fun q => ?_, fun q => ?_⟩
  · have e : chk p 2 = when 3 true := by unfold chk; rw [q]; rfl
    refine FunX.plain (wh true 3 (by omega)) rfl rfl ?_
    rintro _ rfl
    rw [← e]
    generalize chk p 2 = o at *
    cases o with
    | none =>
      refine ⟨rfl, rfl, ?_⟩
      simp only [flt, hT, eA, Nat.beq, List.toArray, reduceAdd, reduceLT, reduceLeDiff, reduceToNat]
      first | exact ⟨_, _, ⟨rfl, rfl⟩, rfl, trivial⟩ | exact ⟨_, _, ⟨rfl, rfl⟩, trivial, trivial⟩
    | some x =>
      obtain ⟨c, k⟩ := x
      refine ⟨rfl, rfl, ?_⟩
      simp only [flt, hT, eA, Nat.beq, List.toArray, reduceAdd, reduceLT, reduceLeDiff, reduceToNat]
      refine ⟨_, _, ⟨rfl, rfl⟩, ?_, trivial⟩
      simp only [flt, eA, Nat.beq, List.toArray, reduceAdd, reduceLT, reduceLeDiff, reduceToNat]
  · have e : chk p 2 = when 3 (decide (16 < p.2.2.1)) := by unfold chk; rw [q]; rfl
    (try unfold lim); repeat first | ((with_reducible refine And.intro ?_ ?_); (first | omega | exact ⟨by omega, by omega⟩ | rfl)) | intro _
    refine FunX.plain (wh (decide (16 < p.2.2.1)) 3 (by omega)) rfl rfl ?_
    rintro _ rfl
    rw [← e]
    generalize chk p 2 = o at *
    cases o with
    | none =>
      refine ⟨rfl, rfl, ?_⟩
      simp only [flt, hT, eA, Nat.beq, List.toArray, reduceAdd, reduceLT, reduceLeDiff, reduceToNat]
      first | exact ⟨_, _, ⟨rfl, rfl⟩, rfl, trivial⟩ | exact ⟨_, _, ⟨rfl, rfl⟩, trivial, trivial⟩
    | some x =>
      obtain ⟨c, k⟩ := x
      refine ⟨rfl, rfl, ?_⟩
      simp only [flt, hT, eA, Nat.beq, List.toArray, reduceAdd, reduceLT, reduceLeDiff, reduceToNat]
      refine ⟨_, _, ⟨rfl, rfl⟩, ?_, trivial⟩
      simp only [flt, eA, Nat.beq, List.toArray, reduceAdd, reduceLT, reduceLeDiff, reduceToNat]
theorem TY_m3 {P : Program} (hP : P = Tryz.prog) : ((fldT P 268 0 = some ((0, (false, 1)))) ∧ (tyT P 105 = some ((false, 1)))) ∧ ((fldT P 43 3 = some ((3, (false, 1)))) ∧ ((tyT P 39 = some ((false, 1))) ∧ (lkT P 39 = 1))) := by subst hP; refine ⟨⟨?_, ?_⟩, ⟨?_, ⟨?_, ?_⟩⟩⟩ <;> kernel_rfl
theorem m3 {P : Program} [Known P] (hP : P = Tryz.prog) (p : VPln) (hs : Sz p) (hok : ∀ i, i < 3 → chk p i = none) : Chk P 240 p 3 := by
  refine fun_ofX (fn := Tryz.f240) (hP ▸ Tryz.func240) (by kernel_rfl) (by kernel_rfl) (by kernel_rfl) (by kernel_rfl) ?_
  have hT := TY_m3 hP
  have hm : P.follows .mixedOrders = true := by subst hP; kernel_rfl
  have wh := @plnWhen P _ hP
  have hc := hs.c
  have hw := hs.w
  have hz := hs.s
  clear hP
  intro hl
  clear hl
  simp only [plnS, Tryz.f240, hT, eA, Nat.beq, List.toArray, reduceAdd, reduceLT, reduceLeDiff, reduceToNat]
  (try unfold lim); repeat first | ((with_reducible refine And.intro ?_ ?_); (first | omega | exact ⟨by omega, by omega⟩ | rfl)) | intro _
  refine ⟨fun q => ?_, fun q => ?_⟩
  · have e : chk p 3 = when 4 true := by unfold chk; rw [q]; rfl
    refine FunX.plain (wh true 4 (by omega)) rfl rfl ?_
    rintro _ rfl
    rw [← e]
    generalize chk p 3 = o at *
    cases o with
    | none =>
      refine ⟨rfl, rfl, ?_⟩
      simp only [flt, hT, eA, Nat.beq, List.toArray, reduceAdd, reduceLT, reduceLeDiff, reduceToNat]
      first | exact ⟨_, _, ⟨rfl, rfl⟩, rfl, trivial⟩ | exact ⟨_, _, ⟨rfl, rfl⟩, trivial, trivial⟩
    | some x =>
      obtain ⟨c, k⟩ := x
      refine ⟨rfl, rfl, ?_⟩
      simp only [flt, hT, eA, Nat.beq, List.toArray, reduceAdd, reduceLT, reduceLeDiff, reduceToNat]
      refine ⟨_, _, ⟨rfl, rfl⟩, ?_, trivial⟩
      simp only [flt, eA, Nat.beq, List.toArray, reduceAdd, reduceLT, reduceLeDiff, reduceToNat]
  · have e : chk p 3 = when 4 (decide (8 < (p.cells.length : Int))) := by unfold chk; rw [q]; rfl
    (try unfold lim); repeat first | ((with_reducible refine And.intro ?_ ?_); (first | omega | exact ⟨by omega, by omega⟩ | rfl)) | intro _
    refine FunX.plain (wh (decide (8 < (p.cells.length : Int))) 4 (by omega)) rfl rfl ?_
    rintro _ rfl
    rw [← e]
    generalize chk p 3 = o at *
    cases o with
    | none =>
      refine ⟨rfl, rfl, ?_⟩
      simp only [flt, hT, eA, Nat.beq, List.toArray, reduceAdd, reduceLT, reduceLeDiff, reduceToNat]
      first | exact ⟨_, _, ⟨rfl, rfl⟩, rfl, trivial⟩ | exact ⟨_, _, ⟨rfl, rfl⟩, trivial, trivial⟩
    | some x =>
      obtain ⟨c, k⟩ := x
      refine ⟨rfl, rfl, ?_⟩
      simp only [flt, hT, eA, Nat.beq, List.toArray, reduceAdd, reduceLT, reduceLeDiff, reduceToNat]
      refine ⟨_, _, ⟨rfl, rfl⟩, ?_, trivial⟩
      simp only [flt, eA, Nat.beq, List.toArray, reduceAdd, reduceLT, reduceLeDiff, reduceToNat]
theorem TY_m4 {P : Program} (hP : P = Tryz.prog) : ((fldT P 268 0 = some ((0, (false, 1)))) ∧ (tyT P 105 = some ((false, 1)))) ∧ ((fldT P 43 3 = some ((3, (false, 1)))) ∧ ((tyT P 39 = some ((false, 1))) ∧ (lkT P 39 = 1))) := by subst hP; refine ⟨⟨?_, ?_⟩, ⟨?_, ⟨?_, ?_⟩⟩⟩ <;> kernel_rfl
theorem m4 {P : Program} [Known P] (hP : P = Tryz.prog) (p : VPln) (hs : Sz p) (hok : ∀ i, i < 4 → chk p i = none) : Chk P 241 p 4 := by
  refine fun_ofX (fn := Tryz.f241) (hP ▸ Tryz.func241) (by kernel_rfl) (by kernel_rfl) (by kernel_rfl) (by kernel_rfl) ?_
  have hT := TY_m4 hP
  have hm : P.follows .mixedOrders = true := by subst hP; kernel_rfl
  have pf := fun n hn => @plnFirst P _ hP n 5 hn 288
  have cc := @cellsC P _ hP p
  have hc := hs.c
  have hw := hs.w
  have hz := hs.s
  have ht := hs.t
  clear hP
  intro hl
  clear hl
  have pf := pf p.cells.length (by omega) [.rp (plnS p)] (bad5 p) (fun k hk _ => cc k hk)
  simp only [plnS, Tryz.f241, hT, eA, Nat.beq, List.toArray, reduceAdd, reduceLT, reduceLeDiff, reduceToNat]
  (try unfold lim); repeat first | ((with_reducible refine And.intro ?_ ?_); (first | omega | exact ⟨by omega, by omega⟩ | rfl)) | intro _
  have e : chk p 4 = first 5 p.cells.length (bad5 p) := rfl
  simp only [plnS] at pf
  refine FunX.lent pf (by first | rfl | (simp only [Int.cast_ofNat_Int, List.map_cons, List.map_nil, pur, geth, Nat.beq, cond_true, cond_false, rdR_byt, rdL, AV.rd, AV.nbV, AV.nb]; done)) (by rfl) ?_
  rintro _ rfl
  rw [← e]
  generalize chk p 4 = o at *
  cases o with
  | none =>
    refine ⟨rfl, rfl, rfl, ?_⟩
    simp only [flt, hT, eA, Nat.beq, List.toArray, reduceAdd, reduceLT, reduceLeDiff, reduceToNat]
    first | exact ⟨_, _, ⟨rfl, rfl⟩, rfl, trivial⟩ | exact ⟨_, _, ⟨rfl, rfl⟩, trivial, trivial⟩
  | some x =>
    obtain ⟨c, k⟩ := x
    refine ⟨rfl, rfl, rfl, ?_⟩
    simp only [flt, hT, eA, Nat.beq, List.toArray, reduceAdd, reduceLT, reduceLeDiff, reduceToNat]
    refine ⟨_, _, ⟨rfl, rfl⟩, ?_, trivial⟩
    simp only [flt, eA, Nat.beq, List.toArray, reduceAdd, reduceLT, reduceLeDiff, reduceToNat]
theorem TY_m5 {P : Program} (hP : P = Tryz.prog) : ((fldT P 268 0 = some ((0, (false, 1)))) ∧ (tyT P 105 = some ((false, 1)))) ∧ ((fldT P 43 4 = some ((4, (false, 1)))) ∧ ((tyT P 40 = some ((false, 1))) ∧ (lkT P 40 = 1))) := by subst hP; refine ⟨⟨?_, ?_⟩, ⟨?_, ⟨?_, ?_⟩⟩⟩ <;> kernel_rfl
theorem m5 {P : Program} [Known P] (hP : P = Tryz.prog) (p : VPln) (hs : Sz p) (hok : ∀ i, i < 5 → chk p i = none) : Chk P 242 p 5 := by
  refine fun_ofX (fn := Tryz.f242) (hP ▸ Tryz.func242) (by kernel_rfl) (by kernel_rfl) (by kernel_rfl) (by kernel_rfl) ?_
  have hT := TY_m5 hP
  have hm : P.follows .mixedOrders = true := by subst hP; kernel_rfl
  have wh := @plnWhen P _ hP
  have hc := hs.c
  have hw := hs.w
  have hz := hs.s
  clear hP
  intro hl
  clear hl
  simp only [plnS, Tryz.f242, hT, eA, Nat.beq, List.toArray, reduceAdd, reduceLT, reduceLeDiff, reduceToNat]
  (try unfold lim); repeat first | ((with_reducible refine And.intro ?_ ?_); (first | omega | exact ⟨by omega, by omega⟩ | rfl)) | intro _
  have e : chk p 5 = when 6 (decide (10 < (p.ways.length : Int))) := rfl
  refine FunX.plain (wh (decide (10 < (p.ways.length : Int))) 6 (by omega)) rfl rfl ?_
  rintro _ rfl
  rw [← e]
  generalize chk p 5 = o at *
  cases o with
  | none =>
    refine ⟨rfl, rfl, ?_⟩
    simp only [flt, hT, eA, Nat.beq, List.toArray, reduceAdd, reduceLT, reduceLeDiff, reduceToNat]
    first | exact ⟨_, _, ⟨rfl, rfl⟩, rfl, trivial⟩ | exact ⟨_, _, ⟨rfl, rfl⟩, trivial, trivial⟩
  | some x =>
    obtain ⟨c, k⟩ := x
    refine ⟨rfl, rfl, ?_⟩
    simp only [flt, hT, eA, Nat.beq, List.toArray, reduceAdd, reduceLT, reduceLeDiff, reduceToNat]
    refine ⟨_, _, ⟨rfl, rfl⟩, ?_, trivial⟩
    simp only [flt, eA, Nat.beq, List.toArray, reduceAdd, reduceLT, reduceLeDiff, reduceToNat]
theorem TY_m6 {P : Program} (hP : P = Tryz.prog) : ((fldT P 268 0 = some ((0, (false, 1)))) ∧ (tyT P 105 = some ((false, 1)))) ∧ ((fldT P 43 4 = some ((4, (false, 1)))) ∧ ((tyT P 40 = some ((false, 1))) ∧ (lkT P 40 = 1))) := by subst hP; refine ⟨⟨?_, ?_⟩, ⟨?_, ⟨?_, ?_⟩⟩⟩ <;> kernel_rfl
theorem m6 {P : Program} [Known P] (hP : P = Tryz.prog) (p : VPln) (hs : Sz p) (hok : ∀ i, i < 6 → chk p i = none) : Chk P 243 p 6 := by
  refine fun_ofX (fn := Tryz.f243) (hP ▸ Tryz.func243) (by kernel_rfl) (by kernel_rfl) (by kernel_rfl) (by kernel_rfl) ?_
  have hT := TY_m6 hP
  have hm : P.follows .mixedOrders = true := by subst hP; kernel_rfl
  have pf := fun n hn => @plnFirst P _ hP n 7 hn 291
  have cc := @waysC P _ hP p
  have hc := hs.c
  have hw := hs.w
  have hz := hs.s
  have ht := hs.t
  clear hP
  intro hl
  clear hl
  have pf := pf p.ways.length (by omega) [.rp (plnS p)] (bad7 p) (fun k hk _ => cc k hk hc (hs.ws k hk))
  simp only [plnS, Tryz.f243, hT, eA, Nat.beq, List.toArray, reduceAdd, reduceLT, reduceLeDiff, reduceToNat]
  (try unfold lim); repeat first | ((with_reducible refine And.intro ?_ ?_); (first | omega | exact ⟨by omega, by omega⟩ | rfl)) | intro _
  have e : chk p 6 = first 7 p.ways.length (bad7 p) := rfl
  simp only [plnS] at pf
  refine FunX.lent pf (by first | rfl | (simp only [Int.cast_ofNat_Int, List.map_cons, List.map_nil, pur, geth, Nat.beq, cond_true, cond_false, rdR_byt, rdL, AV.rd, AV.nbV, AV.nb]; done)) (by rfl) ?_
  rintro _ rfl
  rw [← e]
  generalize chk p 6 = o at *
  cases o with
  | none =>
    refine ⟨rfl, rfl, rfl, ?_⟩
    simp only [flt, hT, eA, Nat.beq, List.toArray, reduceAdd, reduceLT, reduceLeDiff, reduceToNat]
    first | exact ⟨_, _, ⟨rfl, rfl⟩, rfl, trivial⟩ | exact ⟨_, _, ⟨rfl, rfl⟩, trivial, trivial⟩
  | some x =>
    obtain ⟨c, k⟩ := x
    refine ⟨rfl, rfl, rfl, ?_⟩
    simp only [flt, hT, eA, Nat.beq, List.toArray, reduceAdd, reduceLT, reduceLeDiff, reduceToNat]
    refine ⟨_, _, ⟨rfl, rfl⟩, ?_, trivial⟩
    simp only [flt, eA, Nat.beq, List.toArray, reduceAdd, reduceLT, reduceLeDiff, reduceToNat]
theorem TY_m7 {P : Program} (hP : P = Tryz.prog) : ((fldT P 268 0 = some ((0, (false, 1)))) ∧ (tyT P 105 = some ((false, 1)))) ∧ ((fldT P 43 4 = some ((4, (false, 1)))) ∧ ((tyT P 40 = some ((false, 1))) ∧ (lkT P 40 = 1))) := by subst hP; refine ⟨⟨?_, ?_⟩, ⟨?_, ⟨?_, ?_⟩⟩⟩ <;> kernel_rfl
theorem m7 {P : Program} [Known P] (hP : P = Tryz.prog) (p : VPln) (hs : Sz p) (hok : ∀ i, i < 7 → chk p i = none) : Chk P 244 p 7 := by
  refine fun_ofX (fn := Tryz.f244) (hP ▸ Tryz.func244) (by kernel_rfl) (by kernel_rfl) (by kernel_rfl) (by kernel_rfl) ?_
  have hT := TY_m7 hP
  have hm : P.follows .mixedOrders = true := by subst hP; kernel_rfl
  have pf := fun n hn => @plnFirst P _ hP n 8 hn 293
  have cc := @flowsC P _ hP p
  have hc := hs.c
  have hw := hs.w
  have hz := hs.s
  have ht := hs.t
  clear hP
  intro hl
  clear hl
  have h7 : ∀ k, k < p.ways.length → has (p.way k).1 p.cells.length = true ∧ has (p.way k).2.1 p.cells.length = true := fun k hk => bad7_has (first_ok (hok 6 (by omega)) k hk)
  have pf := pf p.ways.length (by omega) [.rp (plnS p)] (bad8 p) (fun k hk _ => cc k hk (h7 k hk).1 (h7 k hk).2)
  simp only [plnS, Tryz.f244, hT, eA, Nat.beq, List.toArray, reduceAdd, reduceLT, reduceLeDiff, reduceToNat]
  (try unfold lim); repeat first | ((with_reducible refine And.intro ?_ ?_); (first | omega | exact ⟨by omega, by omega⟩ | rfl)) | intro _
  have e : chk p 7 = first 8 p.ways.length (bad8 p) := rfl
  simp only [plnS] at pf
  refine FunX.lent pf (by first | rfl | (simp only [Int.cast_ofNat_Int, List.map_cons, List.map_nil, pur, geth, Nat.beq, cond_true, cond_false, rdR_byt, rdL, AV.rd, AV.nbV, AV.nb]; done)) (by rfl) ?_
  rintro _ rfl
  rw [← e]
  generalize chk p 7 = o at *
  cases o with
  | none =>
    refine ⟨rfl, rfl, rfl, ?_⟩
    simp only [flt, hT, eA, Nat.beq, List.toArray, reduceAdd, reduceLT, reduceLeDiff, reduceToNat]
    first | exact ⟨_, _, ⟨rfl, rfl⟩, rfl, trivial⟩ | exact ⟨_, _, ⟨rfl, rfl⟩, trivial, trivial⟩
  | some x =>
    obtain ⟨c, k⟩ := x
    refine ⟨rfl, rfl, rfl, ?_⟩
    simp only [flt, hT, eA, Nat.beq, List.toArray, reduceAdd, reduceLT, reduceLeDiff, reduceToNat]
    refine ⟨_, _, ⟨rfl, rfl⟩, ?_, trivial⟩
    simp only [flt, eA, Nat.beq, List.toArray, reduceAdd, reduceLT, reduceLeDiff, reduceToNat]
theorem TY_m8 {P : Program} (hP : P = Tryz.prog) : ((fldT P 268 0 = some ((0, (false, 1)))) ∧ (tyT P 105 = some ((false, 1)))) ∧ ((fldT P 43 5 = some ((5, (false, 1)))) ∧ ((tyT P 41 = some ((false, 1))) ∧ (lkT P 41 = 1))) := by subst hP; refine ⟨⟨?_, ?_⟩, ⟨?_, ⟨?_, ?_⟩⟩⟩ <;> kernel_rfl
theorem m8 {P : Program} [Known P] (hP : P = Tryz.prog) (p : VPln) (hs : Sz p) (hok : ∀ i, i < 8 → chk p i = none) : Chk P 245 p 8 := by
  refine fun_ofX (fn := Tryz.f245) (hP ▸ Tryz.func245) (by kernel_rfl) (by kernel_rfl) (by kernel_rfl) (by kernel_rfl) ?_
  have hT := TY_m8 hP
  have hm : P.follows .mixedOrders = true := by subst hP; kernel_rfl
  have wh := @plnWhen P _ hP
  have hc := hs.c
  have hw := hs.w
  have hz := hs.s
  clear hP
  intro hl
  clear hl
  simp only [plnS, Tryz.f245, hT, eA, Nat.beq, List.toArray, reduceAdd, reduceLT, reduceLeDiff, reduceToNat]
  (try unfold lim); repeat first | ((with_reducible refine And.intro ?_ ?_); (first | omega | exact ⟨by omega, by omega⟩ | rfl)) | intro _
  refine ⟨fun q => ?_, fun q => ?_⟩
  · have e : chk p 8 = when 9 true := by unfold chk; rw [q]; rfl
    refine FunX.plain (wh true 9 (by omega)) rfl rfl ?_
    rintro _ rfl
    rw [← e]
    generalize chk p 8 = o at *
    cases o with
    | none =>
      refine ⟨rfl, rfl, ?_⟩
      simp only [flt, hT, eA, Nat.beq, List.toArray, reduceAdd, reduceLT, reduceLeDiff, reduceToNat]
      first | exact ⟨_, _, ⟨rfl, rfl⟩, rfl, trivial⟩ | exact ⟨_, _, ⟨rfl, rfl⟩, trivial, trivial⟩
    | some x =>
      obtain ⟨c, k⟩ := x
      refine ⟨rfl, rfl, ?_⟩
      simp only [flt, hT, eA, Nat.beq, List.toArray, reduceAdd, reduceLT, reduceLeDiff, reduceToNat]
      refine ⟨_, _, ⟨rfl, rfl⟩, ?_, trivial⟩
      simp only [flt, eA, Nat.beq, List.toArray, reduceAdd, reduceLT, reduceLeDiff, reduceToNat]
  · have e : chk p 8 = when 9 (decide (12 < (p.slots.length : Int))) := by unfold chk; rw [q]; rfl
    (try unfold lim); repeat first | ((with_reducible refine And.intro ?_ ?_); (first | omega | exact ⟨by omega, by omega⟩ | rfl)) | intro _
    refine FunX.plain (wh (decide (12 < (p.slots.length : Int))) 9 (by omega)) rfl rfl ?_
    rintro _ rfl
    rw [← e]
    generalize chk p 8 = o at *
    cases o with
    | none =>
      refine ⟨rfl, rfl, ?_⟩
      simp only [flt, hT, eA, Nat.beq, List.toArray, reduceAdd, reduceLT, reduceLeDiff, reduceToNat]
      first | exact ⟨_, _, ⟨rfl, rfl⟩, rfl, trivial⟩ | exact ⟨_, _, ⟨rfl, rfl⟩, trivial, trivial⟩
    | some x =>
      obtain ⟨c, k⟩ := x
      refine ⟨rfl, rfl, ?_⟩
      simp only [flt, hT, eA, Nat.beq, List.toArray, reduceAdd, reduceLT, reduceLeDiff, reduceToNat]
      refine ⟨_, _, ⟨rfl, rfl⟩, ?_, trivial⟩
      simp only [flt, eA, Nat.beq, List.toArray, reduceAdd, reduceLT, reduceLeDiff, reduceToNat]
theorem TY_m9 {P : Program} (hP : P = Tryz.prog) : ((fldT P 268 0 = some ((0, (false, 1)))) ∧ (tyT P 105 = some ((false, 1)))) ∧ ((fldT P 43 5 = some ((5, (false, 1)))) ∧ ((tyT P 41 = some ((false, 1))) ∧ (lkT P 41 = 1))) := by subst hP; refine ⟨⟨?_, ?_⟩, ⟨?_, ⟨?_, ?_⟩⟩⟩ <;> kernel_rfl
theorem m9 {P : Program} [Known P] (hP : P = Tryz.prog) (p : VPln) (hs : Sz p) (hok : ∀ i, i < 9 → chk p i = none) : Chk P 246 p 9 := by
  refine fun_ofX (fn := Tryz.f246) (hP ▸ Tryz.func246) (by kernel_rfl) (by kernel_rfl) (by kernel_rfl) (by kernel_rfl) ?_
  have hT := TY_m9 hP
  have hm : P.follows .mixedOrders = true := by subst hP; kernel_rfl
  have pf := fun n hn => @plnFirst P _ hP n 10 hn 295
  have cc := @slotsC P _ hP p
  have hc := hs.c
  have hw := hs.w
  have hz := hs.s
  have ht := hs.t
  clear hP
  intro hl
  clear hl
  have h7 : ∀ k, k < p.ways.length → has (p.way k).1 p.cells.length = true ∧ has (p.way k).2.1 p.cells.length = true := fun k hk => bad7_has (first_ok (hok 6 (by omega)) k hk)
  have pf := pf p.slots.length (by omega) [.rp (plnS p)] (bad10 p) (fun k hk _ => cc k hk hw (fun j hj => (h7 j hj).1))
  simp only [plnS, Tryz.f246, hT, eA, Nat.beq, List.toArray, reduceAdd, reduceLT, reduceLeDiff, reduceToNat]
  (try unfold lim); repeat first | ((with_reducible refine And.intro ?_ ?_); (first | omega | exact ⟨by omega, by omega⟩ | rfl)) | intro _
  have e : chk p 9 = first 10 p.slots.length (bad10 p) := rfl
  simp only [plnS] at pf
  refine FunX.lent pf (by first | rfl | (simp only [Int.cast_ofNat_Int, List.map_cons, List.map_nil, pur, geth, Nat.beq, cond_true, cond_false, rdR_byt, rdL, AV.rd, AV.nbV, AV.nb]; done)) (by rfl) ?_
  rintro _ rfl
  rw [← e]
  generalize chk p 9 = o at *
  cases o with
  | none =>
    refine ⟨rfl, rfl, rfl, ?_⟩
    simp only [flt, hT, eA, Nat.beq, List.toArray, reduceAdd, reduceLT, reduceLeDiff, reduceToNat]
    first | exact ⟨_, _, ⟨rfl, rfl⟩, rfl, trivial⟩ | exact ⟨_, _, ⟨rfl, rfl⟩, trivial, trivial⟩
  | some x =>
    obtain ⟨c, k⟩ := x
    refine ⟨rfl, rfl, rfl, ?_⟩
    simp only [flt, hT, eA, Nat.beq, List.toArray, reduceAdd, reduceLT, reduceLeDiff, reduceToNat]
    refine ⟨_, _, ⟨rfl, rfl⟩, ?_, trivial⟩
    simp only [flt, eA, Nat.beq, List.toArray, reduceAdd, reduceLT, reduceLeDiff, reduceToNat]
theorem TY_m10 {P : Program} (hP : P = Tryz.prog) : ((fldT P 268 0 = some ((0, (false, 1)))) ∧ (tyT P 105 = some ((false, 1)))) ∧ ((fldT P 43 0 = some ((0, (false, 1)))) ∧ (tyT P 3 = some ((false, 1)))) := by subst hP; refine ⟨⟨?_, ?_⟩, ⟨?_, ?_⟩⟩ <;> kernel_rfl
theorem m10 {P : Program} [Known P] (hP : P = Tryz.prog) (p : VPln) (hs : Sz p) (hok : ∀ i, i < 10 → chk p i = none) : Chk P 247 p 10 := by
  refine fun_ofX (fn := Tryz.f247) (hP ▸ Tryz.func247) (by kernel_rfl) (by kernel_rfl) (by kernel_rfl) (by kernel_rfl) ?_
  have hT := TY_m10 hP
  have hm : P.follows .mixedOrders = true := by subst hP; kernel_rfl
  have pf := fun n hn => @plnFirst P _ hP n 11 hn 296
  have cc := @hellosC P _ hP p
  have hc := hs.c
  have hw := hs.w
  have hz := hs.s
  have ht := hs.t
  clear hP
  intro hl
  clear hl
  obtain ⟨n, hn, hn1, hn4⟩ := chk_nodes (hok 0 (by omega))
  have pf := pf n (by omega) [.rp (plnS p)] (bad11 p) (fun k hk _ => cc k hz)
  simp only [plnS, hn, Tryz.f247, hT, eA, Nat.beq, List.toArray, reduceAdd, reduceLT, reduceLeDiff, reduceToNat]
  (try unfold lim); repeat first | ((with_reducible refine And.intro ?_ ?_); (first | omega | exact ⟨by omega, by omega⟩ | rfl)) | intro _
  have e : chk p 10 = first 11 n (bad11 p) := by unfold chk; rw [hn]; rfl
  simp only [hn, plnS] at pf
  refine FunX.lent pf (by first | rfl | (simp only [Int.cast_ofNat_Int, List.map_cons, List.map_nil, pur, geth, Nat.beq, cond_true, cond_false, rdR_byt, rdL, AV.rd, AV.nbV, AV.nb]; done)) (by rfl) ?_
  rintro _ rfl
  rw [← e]
  generalize chk p 10 = o at *
  cases o with
  | none =>
    refine ⟨rfl, rfl, rfl, ?_⟩
    simp only [flt, hT, eA, Nat.beq, List.toArray, reduceAdd, reduceLT, reduceLeDiff, reduceToNat]
    first | exact ⟨_, _, ⟨rfl, rfl⟩, rfl, trivial⟩ | exact ⟨_, _, ⟨rfl, rfl⟩, trivial, trivial⟩
  | some x =>
    obtain ⟨c, k⟩ := x
    refine ⟨rfl, rfl, rfl, ?_⟩
    simp only [flt, hT, eA, Nat.beq, List.toArray, reduceAdd, reduceLT, reduceLeDiff, reduceToNat]
    refine ⟨_, _, ⟨rfl, rfl⟩, ?_, trivial⟩
    simp only [flt, eA, Nat.beq, List.toArray, reduceAdd, reduceLT, reduceLeDiff, reduceToNat]
theorem TY_m11 {P : Program} (hP : P = Tryz.prog) : ((fldT P 268 0 = some ((0, (false, 1)))) ∧ (tyT P 105 = some ((false, 1)))) ∧ ((fldT P 43 4 = some ((4, (false, 1)))) ∧ ((tyT P 40 = some ((false, 1))) ∧ (lkT P 40 = 1))) := by subst hP; refine ⟨⟨?_, ?_⟩, ⟨?_, ⟨?_, ?_⟩⟩⟩ <;> kernel_rfl
theorem m11 {P : Program} [Known P] (hP : P = Tryz.prog) (p : VPln) (hs : Sz p) (hok : ∀ i, i < 11 → chk p i = none) : Chk P 248 p 11 := by
  refine fun_ofX (fn := Tryz.f248) (hP ▸ Tryz.func248) (by kernel_rfl) (by kernel_rfl) (by kernel_rfl) (by kernel_rfl) ?_
  have hT := TY_m11 hP
  have hm : P.follows .mixedOrders = true := by subst hP; kernel_rfl
  have pf := fun n hn => @plnFirst P _ hP n 12 hn 298
  have cc := @waySlotsC P _ hP p
  have hc := hs.c
  have hw := hs.w
  have hz := hs.s
  have ht := hs.t
  clear hP
  intro hl
  clear hl
  have h7 : ∀ k, k < p.ways.length → has (p.way k).1 p.cells.length = true ∧ has (p.way k).2.1 p.cells.length = true := fun k hk => bad7_has (first_ok (hok 6 (by omega)) k hk)
  have pf := pf p.ways.length (by omega) [.rp (plnS p)] (bad12 p) (fun k hk _ => cc k hk hz (h7 k hk).1)
  simp only [plnS, Tryz.f248, hT, eA, Nat.beq, List.toArray, reduceAdd, reduceLT, reduceLeDiff, reduceToNat]
  (try unfold lim); repeat first | ((with_reducible refine And.intro ?_ ?_); (first | omega | exact ⟨by omega, by omega⟩ | rfl)) | intro _
  have e : chk p 11 = first 12 p.ways.length (bad12 p) := rfl
  simp only [plnS] at pf
  refine FunX.lent pf (by first | rfl | (simp only [Int.cast_ofNat_Int, List.map_cons, List.map_nil, pur, geth, Nat.beq, cond_true, cond_false, rdR_byt, rdL, AV.rd, AV.nbV, AV.nb]; done)) (by rfl) ?_
  rintro _ rfl
  rw [← e]
  generalize chk p 11 = o at *
  cases o with
  | none =>
    refine ⟨rfl, rfl, rfl, ?_⟩
    simp only [flt, hT, eA, Nat.beq, List.toArray, reduceAdd, reduceLT, reduceLeDiff, reduceToNat]
    first | exact ⟨_, _, ⟨rfl, rfl⟩, rfl, trivial⟩ | exact ⟨_, _, ⟨rfl, rfl⟩, trivial, trivial⟩
  | some x =>
    obtain ⟨c, k⟩ := x
    refine ⟨rfl, rfl, rfl, ?_⟩
    simp only [flt, hT, eA, Nat.beq, List.toArray, reduceAdd, reduceLT, reduceLeDiff, reduceToNat]
    refine ⟨_, _, ⟨rfl, rfl⟩, ?_, trivial⟩
    simp only [flt, eA, Nat.beq, List.toArray, reduceAdd, reduceLT, reduceLeDiff, reduceToNat]
theorem TY_m12 {P : Program} (hP : P = Tryz.prog) : (((P.follows .mixedOrders = true) ∧ ((fldT P 268 0 = some ((0, (false, 1)))) ∧ (tyT P 105 = some ((false, 1))))) ∧ ((fldT P 43 6 = some ((6, (false, 1)))) ∧ ((tyT P 25 = some ((false, 1))) ∧ (lkT P 25 = 1)))) ∧ (((fldT P 43 0 = some ((0, (false, 1)))) ∧ ((tyT P 3 = some ((false, 1))) ∧ (zeroT P 314 = some (((.int .i64 0) :: ((.int .i64 0) :: [])))))) ∧ (((bldT P 314 = true) ∧ (plT P 314 0 = some ((0, 1)))) ∧ ((plT P 314 1 = some ((1, 1))) ∧ (ncT P 314 = true)))) := by subst hP; refine ⟨⟨⟨?_, ⟨?_, ?_⟩⟩, ⟨?_, ⟨?_, ?_⟩⟩⟩, ⟨⟨?_, ⟨?_, ?_⟩⟩, ⟨⟨?_, ?_⟩, ⟨?_, ?_⟩⟩⟩⟩ <;> kernel_rfl
theorem m12 {P : Program} [Known P] (hP : P = Tryz.prog) (p : VPln) (hs : Sz p) (hok : ∀ i, i < 12 → chk p i = none) : Chk P 249 p 12 := by
  refine fun_ofX (fn := Tryz.f249) (hP ▸ Tryz.func249) (by kernel_rfl) (by kernel_rfl) (by kernel_rfl) (by kernel_rfl) ?_
  have hT := TY_m12 hP
  have hm : P.follows .mixedOrders = true := by subst hP; kernel_rfl
  have pf := fun n hn => @plnFirst P _ hP n 13 hn 299
  have cc := @turnsC P _ hP p
  have hc := hs.c
  have hw := hs.w
  have hz := hs.s
  have ht := hs.t
  clear hP
  intro hl
  clear hl
  obtain ⟨n, hn, hn1, hn4⟩ := chk_nodes (hok 0 (by omega))
  simp only [plnS, hn, Tryz.f249, hT, eA, Nat.beq, List.toArray, reduceAdd, reduceLT, reduceLeDiff, reduceToNat]
  refine wpc_read [0, 1, 2, 3, 4, 5, 6, 7, 8, 9, 10, 11] hm (by kernel_rfl) ?_
  simp only [hn, hT, eT, ↓If_lit, reduceSub, reduceCtorEq, eA, Nat.beq, List.toArray, reduceAdd, reduceLT, reduceLeDiff, reduceToNat]
  (try unfold lim); repeat first | ((with_reducible refine And.intro ?_ ?_); (first | omega | exact ⟨by omega, by omega⟩ | rfl)) | intro _
  refine ⟨fun q => ?_, fun q => ?_⟩
  · have e : chk p 12 = some (13, 0) := by rw [chk12, hn, decide_eq_false (by simpa using q)]; rfl
    rw [e]
    refine ⟨_, _, ⟨rfl, rfl⟩, ?_, trivial⟩
    simp only [flt, eA, Nat.beq, List.toArray, reduceAdd, reduceLT, reduceLeDiff, reduceToNat]
    exact ⟨rfl, rfl⟩
  · have q : (p.turns.length : Int) = n := by simpa using q
    have pf := pf n (by omega) [.rp (plnS p)] (bad13 p) (fun k hk _ => cc k (by omega) hs)
    have e : chk p 12 = first 13 n (bad13 p) := by rw [chk12, hn, decide_eq_true q]; rfl
    simp only [hn, plnS] at pf
    refine FunX.lent pf (by first | rfl | (simp only [Int.cast_ofNat_Int, List.map_cons, List.map_nil, pur, geth, Nat.beq, cond_true, cond_false, rdR_byt, rdL, AV.rd, AV.nbV, AV.nb]; done)) (by rfl) ?_
    rintro _ rfl
    rw [← e]
    generalize chk p 12 = o at *
    cases o with
    | none =>
      refine ⟨rfl, rfl, rfl, ?_⟩
      simp only [flt, hT, eA, Nat.beq, List.toArray, reduceAdd, reduceLT, reduceLeDiff, reduceToNat]
      first | exact ⟨_, _, ⟨rfl, rfl⟩, rfl, trivial⟩ | exact ⟨_, _, ⟨rfl, rfl⟩, trivial, trivial⟩
    | some x =>
      obtain ⟨c, k⟩ := x
      refine ⟨rfl, rfl, rfl, ?_⟩
      simp only [flt, hT, eA, Nat.beq, List.toArray, reduceAdd, reduceLT, reduceLeDiff, reduceToNat]
      refine ⟨_, _, ⟨rfl, rfl⟩, ?_, trivial⟩
      simp only [flt, eA, Nat.beq, List.toArray, reduceAdd, reduceLT, reduceLeDiff, reduceToNat]
theorem TY_m13 {P : Program} (hP : P = Tryz.prog) : ((fldT P 268 0 = some ((0, (false, 1)))) ∧ (tyT P 105 = some ((false, 1)))) ∧ ((fldT P 43 3 = some ((3, (false, 1)))) ∧ ((tyT P 39 = some ((false, 1))) ∧ (lkT P 39 = 1))) := by subst hP; refine ⟨⟨?_, ?_⟩, ⟨?_, ⟨?_, ?_⟩⟩⟩ <;> kernel_rfl
theorem m13 {P : Program} [Known P] (hP : P = Tryz.prog) (p : VPln) (hs : Sz p) (hok : ∀ i, i < 13 → chk p i = none) : Chk P 250 p 13 := by
  refine fun_ofX (fn := Tryz.f250) (hP ▸ Tryz.func250) (by kernel_rfl) (by kernel_rfl) (by kernel_rfl) (by kernel_rfl) ?_
  have hT := TY_m13 hP
  have hm : P.follows .mixedOrders = true := by subst hP; kernel_rfl
  have pf := fun n hn => @plnFirst P _ hP n 14 hn 300
  have cc := @cellTurnsC P _ hP p
  have hc := hs.c
  have hw := hs.w
  have hz := hs.s
  have ht := hs.t
  clear hP
  intro hl
  clear hl
  have h12 := chk_turns (hok 12 (by omega))
  have h5 : ∀ k, k < p.cells.length → has (p.cell k).1 p.turns.length = true := fun k hk => by rw [h12]; exact (bad5_has (first_ok (hok 4 (by omega)) k hk)).1
  have pf := pf p.cells.length (by omega) [.rp (plnS p)] (bad14 p) (fun k hk _ => cc k hk hs (h5 k hk))
  simp only [plnS, Tryz.f250, hT, eA, Nat.beq, List.toArray, reduceAdd, reduceLT, reduceLeDiff, reduceToNat]
  (try unfold lim); repeat first | ((with_reducible refine And.intro ?_ ?_); (first | omega | exact ⟨by omega, by omega⟩ | rfl)) | intro _
  have e : chk p 13 = first 14 p.cells.length (bad14 p) := rfl
  simp only [plnS] at pf
  refine FunX.lent pf (by first | rfl | (simp only [Int.cast_ofNat_Int, List.map_cons, List.map_nil, pur, geth, Nat.beq, cond_true, cond_false, rdR_byt, rdL, AV.rd, AV.nbV, AV.nb]; done)) (by rfl) ?_
  rintro _ rfl
  rw [← e]
  generalize chk p 13 = o at *
  cases o with
  | none =>
    refine ⟨rfl, rfl, rfl, ?_⟩
    simp only [flt, hT, eA, Nat.beq, List.toArray, reduceAdd, reduceLT, reduceLeDiff, reduceToNat]
    first | exact ⟨_, _, ⟨rfl, rfl⟩, rfl, trivial⟩ | exact ⟨_, _, ⟨rfl, rfl⟩, trivial, trivial⟩
  | some x =>
    obtain ⟨c, k⟩ := x
    refine ⟨rfl, rfl, rfl, ?_⟩
    simp only [flt, hT, eA, Nat.beq, List.toArray, reduceAdd, reduceLT, reduceLeDiff, reduceToNat]
    refine ⟨_, _, ⟨rfl, rfl⟩, ?_, trivial⟩
    simp only [flt, eA, Nat.beq, List.toArray, reduceAdd, reduceLT, reduceLeDiff, reduceToNat]
theorem TY_m14 {P : Program} (hP : P = Tryz.prog) : ((fldT P 268 0 = some ((0, (false, 1)))) ∧ (tyT P 105 = some ((false, 1)))) ∧ ((fldT P 43 3 = some ((3, (false, 1)))) ∧ ((tyT P 39 = some ((false, 1))) ∧ (lkT P 39 = 1))) := by subst hP; refine ⟨⟨?_, ?_⟩, ⟨?_, ⟨?_, ?_⟩⟩⟩ <;> kernel_rfl
theorem m14 {P : Program} [Known P] (hP : P = Tryz.prog) (p : VPln) (hs : Sz p) (hok : ∀ i, i < 14 → chk p i = none) : Chk P 251 p 14 := by
  refine fun_ofX (fn := Tryz.f251) (hP ▸ Tryz.func251) (by kernel_rfl) (by kernel_rfl) (by kernel_rfl) (by kernel_rfl) ?_
  have hT := TY_m14 hP
  have hm : P.follows .mixedOrders = true := by subst hP; kernel_rfl
  have pf := fun n hn => @plnFirst P _ hP n 15 hn 301
  have cc := @programsC P _ hP p
  have hc := hs.c
  have hw := hs.w
  have hz := hs.s
  have ht := hs.t
  clear hP
  intro hl
  clear hl
  have pf := pf p.cells.length (by omega) [.rp (plnS p)] (bad15 p) (fun k hk _ => cc k hk hs)
  simp only [plnS, Tryz.f251, hT, eA, Nat.beq, List.toArray, reduceAdd, reduceLT, reduceLeDiff, reduceToNat]
  (try unfold lim); repeat first | ((with_reducible refine And.intro ?_ ?_); (first | omega | exact ⟨by omega, by omega⟩ | rfl)) | intro _
  have e : chk p 14 = first 15 p.cells.length (bad15 p) := rfl
  simp only [plnS] at pf
  refine FunX.lent pf (by first | rfl | (simp only [Int.cast_ofNat_Int, List.map_cons, List.map_nil, pur, geth, Nat.beq, cond_true, cond_false, rdR_byt, rdL, AV.rd, AV.nbV, AV.nb]; done)) (by rfl) ?_
  rintro _ rfl
  rw [← e]
  generalize chk p 14 = o at *
  cases o with
  | none =>
    refine ⟨rfl, rfl, rfl, ?_⟩
    simp only [flt, hT, eA, Nat.beq, List.toArray, reduceAdd, reduceLT, reduceLeDiff, reduceToNat]
    first | exact ⟨_, _, ⟨rfl, rfl⟩, rfl, trivial⟩ | exact ⟨_, _, ⟨rfl, rfl⟩, trivial, trivial⟩
  | some x =>
    obtain ⟨c, k⟩ := x
    refine ⟨rfl, rfl, rfl, ?_⟩
    simp only [flt, hT, eA, Nat.beq, List.toArray, reduceAdd, reduceLT, reduceLeDiff, reduceToNat]
    refine ⟨_, _, ⟨rfl, rfl⟩, ?_, trivial⟩
    simp only [flt, eA, Nat.beq, List.toArray, reduceAdd, reduceLT, reduceLeDiff, reduceToNat]
/-- The first that is wrong. -/
def res (p : VPln) : Option (Nat × Nat) := (List.range 15).findSome? (chk p)
theorem res_none {p : VPln} (h : ∀ i, i < 15 → chk p i = none) : res p = none := by
  unfold res
  rw [List.findSome?_eq_none_iff]
  intro x hx
  exact h x (by simpa using hx)
theorem res_at {p : VPln} {i : Nat} {x : Nat × Nat} (hi : i < 15) (h : chk p i = some x) (hp : ∀ j, j < i → chk p j = none) : res p = some x := by
  unfold res
  have e : List.range 15 = List.range i ++ (List.range (15 - i)).map (i + ·) := by rw [← List.range_add]; congr 1; omega
  rw [e, List.findSome?_append]
  have e1 : (List.range i).findSome? (chk p) = none := by
    rw [List.findSome?_eq_none_iff]
    intro j hj
    exact hp j (by simpa using hj)
  rw [e1]
  obtain ⟨m, hm⟩ : ∃ m, 15 - i = m + 1 := ⟨14 - i, by omega⟩
  rw [hm, List.range_succ_eq_map]
  simp [List.findSome?_cons, h]
theorem TY_plnFind {P : Program} (hP : P = Tryz.prog) : ((((zeroT P 269 = some ((.nilfn :: (.nilfn :: (.nilfn :: (.nilfn :: (.nilfn :: (.nilfn :: (.nilfn :: (.nilfn :: (.nilfn :: (.nilfn :: (.nilfn :: (.nilfn :: (.nilfn :: (.nilfn :: (.nilfn :: []))))))))))))))))) ∧ ((bldT P 269 = true) ∧ (plT P 269 0 = some ((0, 1))))) ∧ ((plT P 269 1 = some ((1, 1))) ∧ ((plT P 269 2 = some ((2, 1))) ∧ (plT P 269 3 = some ((3, 1)))))) ∧ (((plT P 269 4 = some ((4, 1))) ∧ ((plT P 269 5 = some ((5, 1))) ∧ (plT P 269 6 = some ((6, 1))))) ∧ ((plT P 269 7 = some ((7, 1))) ∧ ((plT P 269 8 = some ((8, 1))) ∧ (plT P 269 9 = some ((9, 1))))))) ∧ ((((plT P 269 10 = some ((10, 1))) ∧ ((plT P 269 11 = some ((11, 1))) ∧ (plT P 269 12 = some ((12, 1))))) ∧ ((plT P 269 13 = some ((13, 1))) ∧ ((plT P 269 14 = some ((14, 1))) ∧ (tyT P 269 = some ((true, 15)))))) ∧ (((arT P 269 = some ((15, (false, 1)))) ∧ ((lkT P 269 = 0) ∧ (zeroT P 268 = some ((.nilp :: []))))) ∧ ((bldT P 268 = true) ∧ ((plT P 268 0 = some ((0, 1))) ∧ (itT P 213 = true))))) := by subst hP; refine ⟨⟨⟨⟨?_, ⟨?_, ?_⟩⟩, ⟨?_, ⟨?_, ?_⟩⟩⟩, ⟨⟨?_, ⟨?_, ?_⟩⟩, ⟨?_, ⟨?_, ?_⟩⟩⟩⟩, ⟨⟨⟨?_, ⟨?_, ?_⟩⟩, ⟨?_, ⟨?_, ?_⟩⟩⟩, ⟨⟨?_, ⟨?_, ?_⟩⟩, ⟨?_, ⟨?_, ?_⟩⟩⟩⟩⟩ <;> kernel_rfl
theorem plnFind {P : Program} [Known P] (hP : P = Tryz.prog) (p : VPln) (hs : Sz p) : FunX P 157 0 [.rp (plnS p)] [] (fun r h => r = flt (res p) ∧ h = []) := by
  refine fun_ofX (fn := Tryz.f157) (hP ▸ Tryz.func157) (by kernel_rfl) (by kernel_rfl) (by kernel_rfl) (by kernel_rfl) ?_
  have hT := TY_plnFind hP
  have c0 := @m0 P _ hP p hs
  have c1 := @m1 P _ hP p hs
  have c2 := @m2 P _ hP p hs
  have c3 := @m3 P _ hP p hs
  have c4 := @m4 P _ hP p hs
  have c5 := @m5 P _ hP p hs
  have c6 := @m6 P _ hP p hs
  have c7 := @m7 P _ hP p hs
  have c8 := @m8 P _ hP p hs
  have c9 := @m9 P _ hP p hs
  have c10 := @m10 P _ hP p hs
  have c11 := @m11 P _ hP p hs
  have c12 := @m12 P _ hP p hs
  have c13 := @m13 P _ hP p hs
  have c14 := @m14 P _ hP p hs
  clear hP
  intro hl
  clear hl
  simp only [Tryz.f157, hT, eA, Nat.beq, List.toArray, reduceAdd, reduceLT, reduceLeDiff, reduceToNat]
  refine wpc_loop {i : Nat // i ≤ 15 ∧ ∀ j, j < i → chk p j = none} (fun i => ⟨[(0, .rp (plnS p)), (8, .agg [.fn 237 [], .fn 238 [], .fn 239 [], .fn 240 [], .fn 241 [], .fn 242 [], .fn 243 [], .fn 244 [], .fn 245 [], .fn 246 [], .fn 247 [], .fn 248 [], .fn 249 [], .fn 250 [], .fn 251 []]), (9, .int .i64 i.1)], [], 0⟩) (fun i => 15 - i.1) ⟨0, Nat.zero_le _, fun j hj => absurd hj (by omega)⟩ (Le.of [] (Nat.zero_le _) ?_ ?_ ?_) ?_
  · simp only [eL, eH, eG, leO, Nat.beq, reduceLT]
  · simp only [eL, eH, eG, leO, Nat.beq, reduceLT] <;> rfl
  · simp only [eL, eH, eG, leO, Nat.beq, reduceLT]
  · rintro ⟨i, hi, hp⟩
    simp only [hT, eA, Nat.beq, List.toArray, reduceAdd, reduceLT, reduceLeDiff, reduceToNat]
    refine ⟨fun h => ?_, fun h => ?_⟩
    · simp only [decide_eq_true_eq] at h
      have hi5 : i < 15 := by omega
      have one : ∀ (f : FuncId) (s : St) (K : St → AV → Prop), Chk P f p i → (chk p i = none → K s .nilif) → (∀ c k, res p = some (c, k) → K s (FT c k)) → CallW P f [.agg [.rp (plnS p)]] s K := by
        intro f s K hc h1 h2
        refine FunX.plain hc rfl rfl ?_
        rintro _ rfl
        cases e : chk p i with
        | none => exact ⟨rfl, rfl, h1 e⟩
        | some x =>
          obtain ⟨c, k⟩ := x
          exact ⟨rfl, rfl, h2 c k (res_at hi5 e hp)⟩
      have go : ∀ (tm : List (Nat × AV)), gtm tm 0 = .rp (plnS p) → gtm tm 8 = .agg [.fn 237 [], .fn 238 [], .fn 239 [], .fn 240 [], .fn 241 [], .fn 242 [], .fn 243 [], .fn 244 [], .fn 245 [], .fn 246 [], .fn 247 [], .fn 248 [], .fn 249 [], .fn 250 [], .fn 251 []] → gtm tm 9 = .int .i64 ((i : Int) + 1) → chk p i = none → ∃ x' : {i : Nat // i ≤ 15 ∧ ∀ j, j < i → chk p j = none}, 15 - x'.val < 15 - i ∧ Le P 0 ⟨tm, [], 0⟩ ⟨[(0, .rp (plnS p)), (8, .agg [.fn 237 [], .fn 238 [], .fn 239 [], .fn 240 [], .fn 241 [], .fn 242 [], .fn 243 [], .fn 244 [], .fn 245 [], .fn 246 [], .fn 247 [], .fn 248 [], .fn 249 [], .fn 250 [], .fn 251 []]), (9, .int .i64 x'.1)], [], 0⟩ := by
        intro tm e0 e8 e9 e
        refine ⟨⟨i + 1, hi5, upto hp e⟩, by simp only; omega, Le.of [] (Nat.zero_le _) ?_ ?_ ?_⟩
        · simp only [eL, eH, eG, leO, Nat.beq, reduceLT]
        · simp only [e0, e8, e9, eL, eH, eG, leO, Nat.beq, reduceLT]
          omega
        · simp only [eL, eH, eG, leO, Nat.beq, reduceLT]
      have hc : i = 0 ∨ i = 1 ∨ i = 2 ∨ i = 3 ∨ i = 4 ∨ i = 5 ∨ i = 6 ∨ i = 7 ∨ i = 8 ∨ i = 9 ∨ i = 10 ∨ i = 11 ∨ i = 12 ∨ i = 13 ∨ i = 14 := by omega
      rcases hc with rfl | rfl | rfl | rfl | rfl | rfl | rfl | rfl | rfl | rfl | rfl | rfl | rfl | rfl | rfl
      · have hcj := c0 hp
        simp only [hT, Int.ofNat_zero, Int.cast_ofNat_Int, Int.reduceLT, Int.reduceLE, eA, Nat.beq, List.toArray, reduceAdd, reduceLT, reduceLeDiff, reduceToNat]
        refine one _ _ _ hcj (fun e => ?_) (fun c k e => ?_)
        · simp only [hT, If_lit, eA, Nat.beq, List.toArray, reduceAdd, reduceLT, reduceLeDiff, reduceToNat]
          exact ⟨⟨by omega, by omega⟩, go _ rfl rfl rfl e⟩
        · simp only [hT, If_lit, eA, Nat.beq, List.toArray, reduceAdd, reduceLT, reduceLeDiff, reduceToNat]
          refine ⟨_, _, ⟨rfl, rfl⟩, ?_, trivial⟩
          rw [e]; simp only [flt, eA, Nat.beq, List.toArray, reduceAdd, reduceLT, reduceLeDiff, reduceToNat]
      · have hcj := c1 hp
        simp only [hT, Int.ofNat_zero, Int.cast_ofNat_Int, Int.reduceLT, Int.reduceLE, eA, Nat.beq, List.toArray, reduceAdd, reduceLT, reduceLeDiff, reduceToNat]
        refine one _ _ _ hcj (fun e => ?_) (fun c k e => ?_)
        · simp only [hT, If_lit, eA, Nat.beq, List.toArray, reduceAdd, reduceLT, reduceLeDiff, reduceToNat]
          exact ⟨⟨by omega, by omega⟩, go _ rfl rfl rfl e⟩
        · simp only [hT, If_lit, eA, Nat.beq, List.toArray, reduceAdd, reduceLT, reduceLeDiff, reduceToNat]
          refine ⟨_, _, ⟨rfl, rfl⟩, ?_, trivial⟩
          rw [e]; simp only [flt, eA, Nat.beq, List.toArray, reduceAdd, reduceLT, reduceLeDiff, reduceToNat]
      · have hcj := c2 hp
        simp only [hT, Int.ofNat_zero, Int.cast_ofNat_Int, Int.reduceLT, Int.reduceLE, eA, Nat.beq, List.toArray, reduceAdd, reduceLT, reduceLeDiff, reduceToNat]
        refine one _ _ _ hcj (fun e => ?_) (fun c k e => ?_)
        · simp only [hT, If_lit, eA, Nat.beq, List.toArray, reduceAdd, reduceLT, reduceLeDiff, reduceToNat]
          exact ⟨⟨by omega, by omega⟩, go _ rfl rfl rfl e⟩
        · simp only [hT, If_lit, eA, Nat.beq, List.toArray, reduceAdd, reduceLT, reduceLeDiff, reduceToNat]
          refine ⟨_, _, ⟨rfl, rfl⟩, ?_, trivial⟩
          rw [e]; simp only [flt, eA, Nat.beq, List.toArray, reduceAdd, reduceLT, reduceLeDiff, reduceToNat]
      · have hcj := c3 hp
        simp only [hT, Int.ofNat_zero, Int.cast_ofNat_Int, Int.reduceLT, Int.reduceLE, eA, Nat.beq, List.toArray, reduceAdd, reduceLT, reduceLeDiff, reduceToNat]
        refine one _ _ _ hcj (fun e => ?_) (fun c k e => ?_)
        · simp only [hT, If_lit, eA, Nat.beq, List.toArray, reduceAdd, reduceLT, reduceLeDiff, reduceToNat]
          exact ⟨⟨by omega, by omega⟩, go _ rfl rfl rfl e⟩
        · simp only [hT, If_lit, eA, Nat.beq, List.toArray, reduceAdd, reduceLT, reduceLeDiff, reduceToNat]
          refine ⟨_, _, ⟨rfl, rfl⟩, ?_, trivial⟩
          rw [e]; simp only [flt, eA, Nat.beq, List.toArray, reduceAdd, reduceLT, reduceLeDiff, reduceToNat]
      · have hcj := c4 hp
        simp only [hT, Int.ofNat_zero, Int.cast_ofNat_Int, Int.reduceLT, Int.reduceLE, eA, Nat.beq, List.toArray, reduceAdd, reduceLT, reduceLeDiff, reduceToNat]
        refine one _ _ _ hcj (fun e => ?_) (fun c k e => ?_)
        · simp only [hT, If_lit, eA, Nat.beq, List.toArray, reduceAdd, reduceLT, reduceLeDiff, reduceToNat]
          exact ⟨⟨by omega, by omega⟩, go _ rfl rfl rfl e⟩
        · simp only [hT, If_lit, eA, Nat.beq, List.toArray, reduceAdd, reduceLT, reduceLeDiff, reduceToNat]
          refine ⟨_, _, ⟨rfl, rfl⟩, ?_, trivial⟩
          rw [e]; simp only [flt, eA, Nat.beq, List.toArray, reduceAdd, reduceLT, reduceLeDiff, reduceToNat]
      · have hcj := c5 hp
        simp only [hT, Int.ofNat_zero, Int.cast_ofNat_Int, Int.reduceLT, Int.reduceLE, eA, Nat.beq, List.toArray, reduceAdd, reduceLT, reduceLeDiff, reduceToNat]
        refine one _ _ _ hcj (fun e => ?_) (fun c k e => ?_)
        · simp only [hT, If_lit, eA, Nat.beq, List.toArray, reduceAdd, reduceLT, reduceLeDiff, reduceToNat]
          exact ⟨⟨by omega, by omega⟩, go _ rfl rfl rfl e⟩
        · simp only [hT, If_lit, eA, Nat.beq, List.toArray, reduceAdd, reduceLT, reduceLeDiff, reduceToNat]
          refine ⟨_, _, ⟨rfl, rfl⟩, ?_, trivial⟩
          rw [e]; simp only [flt, eA, Nat.beq, List.toArray, reduceAdd, reduceLT, reduceLeDiff, reduceToNat]
      · have hcj := c6 hp
        simp only [hT, Int.ofNat_zero, Int.cast_ofNat_Int, Int.reduceLT, Int.reduceLE, eA, Nat.beq, List.toArray, reduceAdd, reduceLT, reduceLeDiff, reduceToNat]
        refine one _ _ _ hcj (fun e => ?_) (fun c k e => ?_)
        · simp only [hT, If_lit, eA, Nat.beq, List.toArray, reduceAdd, reduceLT, reduceLeDiff, reduceToNat]
          exact ⟨⟨by omega, by omega⟩, go _ rfl rfl rfl e⟩
        · simp only [hT, If_lit, eA, Nat.beq, List.toArray, reduceAdd, reduceLT, reduceLeDiff, reduceToNat]
          refine ⟨_, _, ⟨rfl, rfl⟩, ?_, trivial⟩
          rw [e]; simp only [flt, eA, Nat.beq, List.toArray, reduceAdd, reduceLT, reduceLeDiff, reduceToNat]
      · have hcj := c7 hp
        simp only [hT, Int.ofNat_zero, Int.cast_ofNat_Int, Int.reduceLT, Int.reduceLE, eA, Nat.beq, List.toArray, reduceAdd, reduceLT, reduceLeDiff, reduceToNat]
        refine one _ _ _ hcj (fun e => ?_) (fun c k e => ?_)
        · simp only [hT, If_lit, eA, Nat.beq, List.toArray, reduceAdd, reduceLT, reduceLeDiff, reduceToNat]
          exact ⟨⟨by omega, by omega⟩, go _ rfl rfl rfl e⟩
        · simp only [hT, If_lit, eA, Nat.beq, List.toArray, reduceAdd, reduceLT, reduceLeDiff, reduceToNat]
          refine ⟨_, _, ⟨rfl, rfl⟩, ?_, trivial⟩
          rw [e]; simp only [flt, eA, Nat.beq, List.toArray, reduceAdd, reduceLT, reduceLeDiff, reduceToNat]
      · have hcj := c8 hp
        simp only [hT, Int.ofNat_zero, Int.cast_ofNat_Int, Int.reduceLT, Int.reduceLE, eA, Nat.beq, List.toArray, reduceAdd, reduceLT, reduceLeDiff, reduceToNat]
        refine one _ _ _ hcj (fun e => ?_) (fun c k e => ?_)
        · simp only [hT, If_lit, eA, Nat.beq, List.toArray, reduceAdd, reduceLT, reduceLeDiff, reduceToNat]
          exact ⟨⟨by omega, by omega⟩, go _ rfl rfl rfl e⟩
        · simp only [hT, If_lit, eA, Nat.beq, List.toArray, reduceAdd, reduceLT, reduceLeDiff, reduceToNat]
          refine ⟨_, _, ⟨rfl, rfl⟩, ?_, trivial⟩
          rw [e]; simp only [flt, eA, Nat.beq, List.toArray, reduceAdd, reduceLT, reduceLeDiff, reduceToNat]
      · have hcj := c9 hp
        simp only [hT, Int.ofNat_zero, Int.cast_ofNat_Int, Int.reduceLT, Int.reduceLE, eA, Nat.beq, List.toArray, reduceAdd, reduceLT, reduceLeDiff, reduceToNat]
        refine one _ _ _ hcj (fun e => ?_) (fun c k e => ?_)
        · simp only [hT, If_lit, eA, Nat.beq, List.toArray, reduceAdd, reduceLT, reduceLeDiff, reduceToNat]
          exact ⟨⟨by omega, by omega⟩, go _ rfl rfl rfl e⟩
        · simp only [hT, If_lit, eA, Nat.beq, List.toArray, reduceAdd, reduceLT, reduceLeDiff, reduceToNat]
          refine ⟨_, _, ⟨rfl, rfl⟩, ?_, trivial⟩
          rw [e]; simp only [flt, eA, Nat.beq, List.toArray, reduceAdd, reduceLT, reduceLeDiff, reduceToNat]
      · have hcj := c10 hp
        simp only [hT, Int.ofNat_zero, Int.cast_ofNat_Int, Int.reduceLT, Int.reduceLE, eA, Nat.beq, List.toArray, reduceAdd, reduceLT, reduceLeDiff, reduceToNat]
        refine one _ _ _ hcj (fun e => ?_) (fun c k e => ?_)
        · simp only [hT, If_lit, eA, Nat.beq, List.toArray, reduceAdd, reduceLT, reduceLeDiff, reduceToNat]
          exact ⟨⟨by omega, by omega⟩, go _ rfl rfl rfl e⟩
        · simp only [hT, If_lit, eA, Nat.beq, List.toArray, reduceAdd, reduceLT, reduceLeDiff, reduceToNat]
          refine ⟨_, _, ⟨rfl, rfl⟩, ?_, trivial⟩
          rw [e]; simp only [flt, eA, Nat.beq, List.toArray, reduceAdd, reduceLT, reduceLeDiff, reduceToNat]
      · have hcj := c11 hp
        simp only [hT, Int.ofNat_zero, Int.cast_ofNat_Int, Int.reduceLT, Int.reduceLE, eA, Nat.beq, List.toArray, reduceAdd, reduceLT, reduceLeDiff, reduceToNat]
        refine one _ _ _ hcj (fun e => ?_) (fun c k e => ?_)
        · simp only [hT, If_lit, eA, Nat.beq, List.toArray, reduceAdd, reduceLT, reduceLeDiff, reduceToNat]
          exact ⟨⟨by omega, by omega⟩, go _ rfl rfl rfl e⟩
        · simp only [hT, If_lit, eA, Nat.beq, List.toArray, reduceAdd, reduceLT, reduceLeDiff, reduceToNat]
          refine ⟨_, _, ⟨rfl, rfl⟩, ?_, trivial⟩
          rw [e]; simp only [flt, eA, Nat.beq, List.toArray, reduceAdd, reduceLT, reduceLeDiff, reduceToNat]
      · have hcj := c12 hp
        simp only [hT, Int.ofNat_zero, Int.cast_ofNat_Int, Int.reduceLT, Int.reduceLE, eA, Nat.beq, List.toArray, reduceAdd, reduceLT, reduceLeDiff, reduceToNat]
        refine one _ _ _ hcj (fun e => ?_) (fun c k e => ?_)
        · simp only [hT, If_lit, eA, Nat.beq, List.toArray, reduceAdd, reduceLT, reduceLeDiff, reduceToNat]
          exact ⟨⟨by omega, by omega⟩, go _ rfl rfl rfl e⟩
        · simp only [hT, If_lit, eA, Nat.beq, List.toArray, reduceAdd, reduceLT, reduceLeDiff, reduceToNat]
          refine ⟨_, _, ⟨rfl, rfl⟩, ?_, trivial⟩
          rw [e]; simp only [flt, eA, Nat.beq, List.toArray, reduceAdd, reduceLT, reduceLeDiff, reduceToNat]
      · have hcj := c13 hp
        simp only [hT, Int.ofNat_zero, Int.cast_ofNat_Int, Int.reduceLT, Int.reduceLE, eA, Nat.beq, List.toArray, reduceAdd, reduceLT, reduceLeDiff, reduceToNat]
        refine one _ _ _ hcj (fun e => ?_) (fun c k e => ?_)
        · simp only [hT, If_lit, eA, Nat.beq, List.toArray, reduceAdd, reduceLT, reduceLeDiff, reduceToNat]
          exact ⟨⟨by omega, by omega⟩, go _ rfl rfl rfl e⟩
        · simp only [hT, If_lit, eA, Nat.beq, List.toArray, reduceAdd, reduceLT, reduceLeDiff, reduceToNat]
          refine ⟨_, _, ⟨rfl, rfl⟩, ?_, trivial⟩
          rw [e]; simp only [flt, eA, Nat.beq, List.toArray, reduceAdd, reduceLT, reduceLeDiff, reduceToNat]
      · have hcj := c14 hp
        simp only [hT, Int.ofNat_zero, Int.cast_ofNat_Int, Int.reduceLT, Int.reduceLE, eA, Nat.beq, List.toArray, reduceAdd, reduceLT, reduceLeDiff, reduceToNat]
        refine one _ _ _ hcj (fun e => ?_) (fun c k e => ?_)
        · simp only [hT, If_lit, eA, Nat.beq, List.toArray, reduceAdd, reduceLT, reduceLeDiff, reduceToNat]
          exact ⟨⟨by omega, by omega⟩, go _ rfl rfl rfl e⟩
        · simp only [hT, If_lit, eA, Nat.beq, List.toArray, reduceAdd, reduceLT, reduceLeDiff, reduceToNat]
          refine ⟨_, _, ⟨rfl, rfl⟩, ?_, trivial⟩
          rw [e]; simp only [flt, eA, Nat.beq, List.toArray, reduceAdd, reduceLT, reduceLeDiff, reduceToNat]
    · simp only [decide_eq_false_iff_not] at h
      refine ⟨_, _, ⟨rfl, rfl⟩, ?_, trivial⟩
      rw [res_none (fun j hj => hp j (by omega))]; simp only [flt, eA, Nat.beq, List.toArray, reduceAdd, reduceLT, reduceLeDiff, reduceToNat]
theorem plnOkI {P : Program} [Known P] (hP : P = Tryz.prog) (p : VPln) (hs : Sz p) : Fun P 61 [.agg (plnS p)] (.bool (res p).isNone) := by
  refine fun_of (fn := Tryz.f61) (hP ▸ Tryz.func61) (by kernel_rfl) (by kernel_rfl) (by kernel_rfl) (by kernel_rfl) ?_
  have hT := TY_plnFind hP
  have pf := plnFind hP p hs
  clear hP
  intro hl
  clear hl
  simp only [plnS, Tryz.f61, hT, eA, Nat.beq, List.toArray, reduceAdd, reduceLT, reduceLeDiff, reduceToNat]
  simp only [plnS] at pf
  refine FunX.lent pf (by first | rfl | (simp only [Int.cast_ofNat_Int, List.map_cons, List.map_nil, pur, geth, Nat.beq, cond_true, cond_false, rdR_byt, rdL, AV.rd, AV.nbV, AV.nb]; done)) (by rfl) ?_
  rintro _ rfl
  cases res p with
  | none =>
    refine ⟨rfl, rfl, rfl, ?_⟩
    simp only [flt, hT, Option.isNone_none, eA, Nat.beq, List.toArray, reduceAdd, reduceLT, reduceLeDiff, reduceToNat]
  | some x =>
    obtain ⟨c, k⟩ := x
    refine ⟨rfl, rfl, rfl, ?_⟩
    simp only [flt, hT, Option.isNone_some, eA, Nat.beq, List.toArray, reduceAdd, reduceLT, reduceLeDiff, reduceToNat]
end Go.Proofs.YtjlmfcddbcoimaaGreat.C
