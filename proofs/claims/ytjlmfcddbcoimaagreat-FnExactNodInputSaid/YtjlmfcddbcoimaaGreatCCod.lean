/- Programs: whether they are ok, by both texts. -/
import Derived.Test.YtjlmfcddbcoimaaGreatCIn
set_option maxRecDepth 100000
set_option linter.unusedSimpArgs false
set_option linter.unusedVariables false
namespace Go.Proofs.YtjlmfcddbcoimaaGreat.C
open Go Go.Av Go.Proofs
open Nat (reduceAdd reduceLT reduceLeDiff reduceSub)
open Int (reduceToNat)
/-- An order. -/
abbrev VOrd := Int × Int × Int × Int × Unit
abbrev oZ : List AV := [.int .i64 0, .int .i64 0, .int .i64 0, .int .i64 0]
abbrev o0 : VOrd := (0, 0, 0, 0, ())
def ordE (o : VOrd) : List AV := [.int .i64 o.1, .int .i64 o.2.1, .int .i64 o.2.2.1, .int .i64 o.2.2.2.1]
theorem getOrd (l : List VOrd) (j : Nat) : (l.map ordE).getD j [.int .i64 0, .int .i64 0, .int .i64 0, .int .i64 0] = ordE (l.getD j o0) := getEnc ordE l j o0
abbrev codeS (l : List VOrd) : AV := .sl 4 (l.map ordE) oZ
abbrev codeO (l : List VOrd) : AV := .own 4 (l.map ordE) oZ
theorem all_get {α : Type} (l : List α) (f : α → Bool) (d : α) : l.all f = true ↔ ∀ j, j < l.length → f (l.getD j d) = true := by
  rw [List.all_eq_true]
  refine ⟨fun h j hj => ?_, fun h x hx => ?_⟩
  · rw [List.getD_eq_getElem?_getD, List.getElem?_eq_getElem hj]
    exact h _ (List.getElem_mem hj)
  · obtain ⟨j, hj, rfl⟩ := List.getElem_of_mem hx
    have := h j hj
    rwa [List.getD_eq_getElem?_getD, List.getElem?_eq_getElem hj] at this
theorem all_not {α : Type} {l : List α} {f : α → Bool} (d : α) {j : Nat} (hj : j < l.length) (h : f (l.getD j d) = false) : l.all f = false := by
  cases hb : l.all f with
  | false => rfl
  | true => rw [(all_get l f d).1 hb j hj] at h; cases h
def opOk (n : Int) : Bool := decide (1 ≤ n) && decide (n ≤ 14)
/-- The kinds of an order's numbers. -/
def kd : Nat → List UInt8
  | 1 => [114, 118]
  | 5 => [114, 114, 114]
  | 8 => [112, 114]
  | 9 | 10 => [119, 114, 114]
  | 12 => [114]
  | 2 | 3 | 4 | 6 | 7 | 11 => [114, 114]
  | _ => []
def mst (k : Int) : Int := if k = 114 then 3 else if k = 118 then 255 else if k = 112 then 24 else if k = 119 then 9 else 0
def mo (n i : Nat) : Int := if i < (kd n).length then mst ((kd n).toArray.getD i 0).toNat else 0
def nOk (m x : Int) : Bool := decide (0 ≤ x) && decide (x ≤ m)
theorem nOk_lo {m x : Int} (h : decide (x < 0) = true) : nOk m x = false := by
  simp only [decide_eq_true_eq] at h
  unfold nOk
  rw [decide_eq_false (by omega), Bool.false_and]
theorem nOk_hi {m x : Int} (h : m < x) : nOk m x = false := by
  unfold nOk
  rw [decide_eq_false (by omega : ¬x ≤ m), Bool.and_false]
theorem nOk_of {m x : Int} (h : decide (x < 0) = false) (h' : ¬m < x) : nOk m x = true := by
  simp only [decide_eq_false_iff_not] at h
  unfold nOk
  rw [decide_eq_true (by omega), decide_eq_true (by omega : x ≤ m), Bool.and_self]
def ordOk (o : VOrd) : Bool := opOk o.1 && (nOk (mo o.1.toNat 0) o.2.1 && (nOk (mo o.1.toNat 1) o.2.2.1 && nOk (mo o.1.toNat 2) o.2.2.2.1))
def ordIn (n : Nat) (o : VOrd) : Bool := ordOk o && !(decide (o.1 = 8) && decide ((n : Int) < o.2.1))
def codOk (l : List VOrd) : Bool := decide (l.length ≤ 24) && l.all (ordIn l.length)
theorem TY_codA {P : Program} (hP : P = Tryz.prog) : ((((zeroT P 332 = some (((.str ⟨([]).toArray⟩) :: ((.str ⟨([]).toArray⟩) :: ((.str ⟨([]).toArray⟩) :: ((.str ⟨([]).toArray⟩) :: ((.str ⟨([]).toArray⟩) :: ((.str ⟨([]).toArray⟩) :: ((.str ⟨([]).toArray⟩) :: ((.str ⟨([]).toArray⟩) :: ((.str ⟨([]).toArray⟩) :: ((.str ⟨([]).toArray⟩) :: ((.str ⟨([]).toArray⟩) :: ((.str ⟨([]).toArray⟩) :: ((.str ⟨([]).toArray⟩) :: ((.str ⟨([]).toArray⟩) :: ((.str ⟨([]).toArray⟩) :: []))))))))))))))))) ∧ (bldT P 332 = true)) ∧ ((plT P 332 1 = some ((1, 1))) ∧ (plT P 332 2 = some ((2, 1))))) ∧ (((plT P 332 3 = some ((3, 1))) ∧ (plT P 332 4 = some ((4, 1)))) ∧ ((plT P 332 5 = some ((5, 1))) ∧ ((plT P 332 6 = some ((6, 1))) ∧ (plT P 332 7 = some ((7, 1))))))) ∧ ((((plT P 332 8 = some ((8, 1))) ∧ (plT P 332 9 = some ((9, 1)))) ∧ ((plT P 332 10 = some ((10, 1))) ∧ (plT P 332 11 = some ((11, 1))))) ∧ (((plT P 332 12 = some ((12, 1))) ∧ (plT P 332 13 = some ((13, 1)))) ∧ ((plT P 332 14 = some ((14, 1))) ∧ ((arT P 332 = some ((15, (false, 1)))) ∧ (lkT P 332 = 0))))) := by subst hP; refine ⟨⟨⟨⟨?_, ?_⟩, ⟨?_, ?_⟩⟩, ⟨⟨?_, ?_⟩, ⟨?_, ⟨?_, ?_⟩⟩⟩⟩, ⟨⟨⟨?_, ?_⟩, ⟨?_, ?_⟩⟩, ⟨⟨?_, ?_⟩, ⟨?_, ⟨?_, ?_⟩⟩⟩⟩⟩ <;> kernel_rfl
theorem opOkI {P : Program} [Known P] (hP : P = Tryz.prog) (n : Int) : Fun P 322 [.int .i64 n] (.bool (opOk n)) := by
  refine fun_of (fn := Tryz.f322) (hP ▸ Tryz.func322) (by kernel_rfl) (by kernel_rfl) (by kernel_rfl) (by kernel_rfl) ?_
  have hT := TY_codA hP
  clear hP
  intro hl
  clear hl
  simp only [Tryz.f322, hT, eA, Nat.beq, List.toArray, reduceAdd, reduceLT, reduceLeDiff, reduceToNat]
  exact ⟨fun q => by unfold opOk; rw [q]; rfl, fun q => by unfold opOk; rw [q]; rfl⟩
theorem op_nat {n : Int} (h : opOk n = true) : ∃ a : Nat, n = a ∧ (a = 1 ∨ a = 2 ∨ a = 3 ∨ a = 4 ∨ a = 5 ∨ a = 6 ∨ a = 7 ∨ a = 8 ∨ a = 9 ∨ a = 10 ∨ a = 11 ∨ a = 12 ∨ a = 13 ∨ a = 14) := by
  unfold opOk at h
  simp only [Bool.and_eq_true, decide_eq_true_eq] at h
  exact ⟨n.toNat, by omega, by omega⟩
theorem op_bad {n : Int} (h : opOk n = false) : kd n.toNat = [] := by
  unfold opOk at h
  simp only [Bool.and_eq_false_iff, decide_eq_false_iff_not] at h
  rcases h with h | h
  · rw [show n.toNat = 0 by omega]; rfl
  · obtain ⟨k, hk⟩ : ∃ k, n.toNat = k + 15 := ⟨n.toNat - 15, by omega⟩
    rw [hk]; rfl
theorem kindsI {P : Program} [Known P] (hP : P = Tryz.prog) (n : Int) : Fun P 323 [.int .i64 n] (.str ⟨(kd n.toNat).toArray⟩) := by
  refine fun_of (fn := Tryz.f323) (hP ▸ Tryz.func323) (by kernel_rfl) (by kernel_rfl) (by kernel_rfl) (by kernel_rfl) ?_
  have hT := TY_codA hP
  have oo := opOkI hP n
  clear hP
  intro hl
  clear hl
  simp only [Tryz.f323, hT, eA, Nat.beq, List.toArray, reduceAdd, reduceLT, reduceLeDiff, reduceToNat]
  refine Fun.plain (oo) rfl rfl rfl rfl ?_; simp only [hT, eN, ↓If_lit, Int.reduceLT, Int.reduceLE, eA, Nat.beq, List.toArray, reduceAdd, reduceLT, reduceLeDiff, reduceToNat]; (try unfold lim); repeat first | ((with_reducible refine And.intro ?_ ?_); (first | omega | exact ⟨by omega, by omega⟩ | rfl)) | intro _
  refine ⟨fun q => ?_, fun q => ?_⟩
  · rw [op_bad (by simpa using q)]
  · have q : opOk n = true := by simpa using q
    obtain ⟨a, rfl, h⟩ := op_nat q
    clear oo q
    rcases h with rfl | rfl | rfl | rfl | rfl | rfl | rfl | rfl | rfl | rfl | rfl | rfl | rfl | rfl <;> refine ⟨by omega, by omega, rfl⟩
theorem mostI {P : Program} [Known P] (hP : P = Tryz.prog) (n : Int) : Fun P 324 [.int .u8 n] (.int .i64 (mst n)) := by
  refine fun_of (fn := Tryz.f324) (hP ▸ Tryz.func324) (by kernel_rfl) (by kernel_rfl) (by kernel_rfl) (by kernel_rfl) ?_
  have hT := TY_codA hP
  clear hP
  intro hl
  clear hl
  simp only [Tryz.f324, hT, eA, Nat.beq, List.toArray, reduceAdd, reduceLT, reduceLeDiff, reduceToNat]
  unfold mst
  repeat' first
    | with_reducible refine If.mk (fun _ => ?_) (fun _ => ?_)
    | (clear hT; simp_all)
theorem TY_codB {P : Program} (hP : P = Tryz.prog) : (((fldT P 274 0 = some ((0, (false, 1)))) ∧ ((tyT P 3 = some ((false, 1))) ∧ (fldT P 274 1 = some ((1, (false, 1)))))) ∧ (((fldT P 274 2 = some ((2, (false, 1)))) ∧ (fldT P 274 3 = some ((3, (false, 1))))) ∧ ((zeroT P 328 = some (((.int .i64 0) :: ((.int .i64 0) :: ((.int .i64 0) :: []))))) ∧ (bldT P 328 = true)))) ∧ (((plT P 328 0 = some ((0, 1))) ∧ ((plT P 328 1 = some ((1, 1))) ∧ (plT P 328 2 = some ((2, 1))))) ∧ (((arT P 328 = some ((3, (false, 1)))) ∧ (lkT P 328 = 0)) ∧ ((lkT P 9 = 2) ∧ (arT P 9 = none)))) := by subst hP; refine ⟨⟨⟨?_, ⟨?_, ?_⟩⟩, ⟨⟨?_, ?_⟩, ⟨?_, ?_⟩⟩⟩, ⟨⟨?_, ⟨?_, ?_⟩⟩, ⟨⟨?_, ?_⟩, ⟨?_, ?_⟩⟩⟩⟩ <;> kernel_rfl
theorem ordOkI {P : Program} [Known P] (hP : P = Tryz.prog) (o : VOrd) : Fun P 317 [.agg (ordE o)] (.bool (ordOk o)) := by
  refine fun_of (fn := Tryz.f317) (hP ▸ Tryz.func317) (by kernel_rfl) (by kernel_rfl) (by kernel_rfl) (by kernel_rfl) ?_
  have hT := TY_codB hP
  have oo := opOkI hP o.1
  have kk := kindsI hP o.1
  have mm := fun i => mostI hP ((kd o.1.toNat).toArray.getD i 0).toNat
  clear hP
  intro hl
  clear hl
  obtain ⟨n, a, b, c, u⟩ := o
  simp only at oo kk mm
  simp only [ordE, Tryz.f317, hT, eA, Nat.beq, List.toArray, reduceAdd, reduceLT, reduceLeDiff, reduceToNat]
  refine Fun.plain (oo) rfl rfl rfl rfl ?_; simp only [hT, eN, ↓If_lit, Int.reduceLT, Int.reduceLE, eA, Nat.beq, List.toArray, reduceAdd, reduceLT, reduceLeDiff, reduceToNat]; (try unfold lim); repeat first | ((with_reducible refine And.intro ?_ ?_); (first | omega | exact ⟨by omega, by omega⟩ | rfl)) | intro _
  refine ⟨fun q => ?_, fun q => ?_⟩
  · have q : opOk n = false := by simpa using q
    unfold ordOk; simp only [q]; rfl
  · have q : opOk n = true := by simpa using q
    refine Fun.plain (kk) rfl rfl rfl rfl ?_; simp only [hT, eN, ↓If_lit, Int.reduceLT, Int.reduceLE, eA, Nat.beq, List.toArray, reduceAdd, reduceLT, reduceLeDiff, reduceToNat]; (try unfold lim); repeat first | ((with_reducible refine And.intro ?_ ?_); (first | omega | exact ⟨by omega, by omega⟩ | rfl)) | intro _
    have hsz : ByteArray.size ⟨(kd n.toNat).toArray⟩ = (kd n.toNat).length := rfl
    have bad0 : nOk (mo n.toNat 0) a = false → ordOk (n, a, b, c, u) = false := fun h => by unfold ordOk; simp only [h, Bool.false_and, Bool.and_false]
    have bad1 : nOk (mo n.toNat 1) b = false → ordOk (n, a, b, c, u) = false := fun h => by unfold ordOk; simp only [h, Bool.false_and, Bool.and_false]
    have bad2 : nOk (mo n.toNat 2) c = false → ordOk (n, a, b, c, u) = false := fun h => by unfold ordOk; simp only [h, Bool.false_and, Bool.and_false]
    have good : nOk (mo n.toNat 0) a = true → nOk (mo n.toNat 1) b = true → nOk (mo n.toNat 2) c = true → ordOk (n, a, b, c, u) = true := fun h h' h'' => by unfold ordOk; simp only [q, h, h', h'', Bool.and_self]
    generalize ordOk (n, a, b, c, u) = R at *
    refine wpc_loop {i : Nat // i ≤ 3 ∧ (0 < i → nOk (mo n.toNat 0) a = true) ∧ (1 < i → nOk (mo n.toNat 1) b = true) ∧ (2 < i → nOk (mo n.toNat 2) c = true)} (fun i => ⟨[(4, .str ⟨(kd n.toNat).toArray⟩), (21, .agg [.int .i64 a, .int .i64 b, .int .i64 c]), (22, .int .i64 i.1)], [], 0⟩) (fun i => 3 - i.1) ⟨0, by omega, by omega, by omega, by omega⟩ (Le.of [] (Nat.zero_le _) ?_ ?_ ?_) ?_
    · simp only [eL, eH, eG, leO, Nat.beq, reduceLT]
    · simp only [eL, eH, eG, leO, Nat.beq, reduceLT]; rfl
    · simp only [eL, eH, eG, leO, Nat.beq, reduceLT]
    · rintro ⟨i, hi, h0, h1, h2⟩
      have hc : i = 0 ∨ i = 1 ∨ i = 2 ∨ i = 3 := by omega
      rcases hc with rfl | rfl | rfl | rfl
      · simp only [hT, hsz, Int.ofNat_zero, Int.cast_ofNat_Int, Int.reduceLT, decide_true, If_lit, eA, Nat.beq, List.toArray, reduceAdd, reduceLT, reduceLeDiff, reduceToNat]
        (try unfold lim); repeat first | ((with_reducible refine And.intro ?_ ?_); (first | omega | exact ⟨by omega, by omega⟩ | rfl)) | intro _
        refine ⟨fun h => ?_, fun h => ?_⟩
        · simp only [decide_eq_true_eq] at h
          have em : mo n.toNat 0 = mst ((Array.mk (kd n.toNat)).getD 0 0).toNat := by unfold mo; rw [if_pos (by omega)]
          (try unfold lim); repeat first | ((with_reducible refine And.intro ?_ ?_); (first | omega | exact ⟨by omega, by omega⟩ | rfl)) | intro _
          refine Fun.plain (mm 0) rfl rfl rfl rfl ?_; simp only [hT, eN, ↓If_lit, Int.reduceLT, Int.reduceLE, eA, Nat.beq, List.toArray, reduceAdd, reduceLT, reduceLeDiff, reduceToNat]; (try unfold lim); repeat first | ((with_reducible refine And.intro ?_ ?_); (first | omega | exact ⟨by omega, by omega⟩ | rfl)) | intro _
          refine ⟨fun h2 => (bad0 (nOk_lo h2)).symm, fun h2 => ⟨fun h3 => (bad0 (nOk_hi (by simp only [decide_eq_true_eq] at h3; omega))).symm, fun h3 => ?_⟩⟩
          have hk : nOk (mo n.toNat 0) a = true := nOk_of h2 (by simp only [decide_eq_false_iff_not] at h3; omega)
          refine ⟨⟨by omega, by omega⟩, ⟨0 + 1, by omega, fun _ => hk, fun h => absurd h (by omega), fun h => absurd h (by omega)⟩, by simp only; omega, Le.of [] (Nat.zero_le _) ?_ ?_ ?_⟩ <;> simp only [eL, eH, eG, leO, Nat.beq, reduceLT]
          rfl
        · simp only [decide_eq_false_iff_not] at h
          have em : mo n.toNat 0 = 0 := by unfold mo; rw [if_neg (by omega)]
          refine ⟨fun h2 => (bad0 (nOk_lo h2)).symm, fun h2 => ⟨fun h3 => (bad0 (nOk_hi (by simp only [decide_eq_true_eq] at h3; omega))).symm, fun h3 => ?_⟩⟩
          have hk : nOk (mo n.toNat 0) a = true := nOk_of h2 (by simp only [decide_eq_false_iff_not] at h3; omega)
          refine ⟨⟨by omega, by omega⟩, ⟨0 + 1, by omega, fun _ => hk, fun h => absurd h (by omega), fun h => absurd h (by omega)⟩, by simp only; omega, Le.of [] (Nat.zero_le _) ?_ ?_ ?_⟩ <;> simp only [eL, eH, eG, leO, Nat.beq, reduceLT]
          rfl
      · simp only [hT, hsz, Int.ofNat_zero, Int.cast_ofNat_Int, Int.reduceLT, decide_true, If_lit, eA, Nat.beq, List.toArray, reduceAdd, reduceLT, reduceLeDiff, reduceToNat]
        (try unfold lim); repeat first | ((with_reducible refine And.intro ?_ ?_); (first | omega | exact ⟨by omega, by omega⟩ | rfl)) | intro _
        refine ⟨fun h => ?_, fun h => ?_⟩
        · simp only [decide_eq_true_eq] at h
          have em : mo n.toNat 1 = mst ((Array.mk (kd n.toNat)).getD 1 0).toNat := by unfold mo; rw [if_pos (by omega)]
          (try unfold lim); repeat first | ((with_reducible refine And.intro ?_ ?_); (first | omega | exact ⟨by omega, by omega⟩ | rfl)) | intro _
          refine Fun.plain (mm 1) rfl rfl rfl rfl ?_; simp only [hT, eN, ↓If_lit, Int.reduceLT, Int.reduceLE, eA, Nat.beq, List.toArray, reduceAdd, reduceLT, reduceLeDiff, reduceToNat]; (try unfold lim); repeat first | ((with_reducible refine And.intro ?_ ?_); (first | omega | exact ⟨by omega, by omega⟩ | rfl)) | intro _
          refine ⟨fun h2 => (bad1 (nOk_lo h2)).symm, fun h2 => ⟨fun h3 => (bad1 (nOk_hi (by simp only [decide_eq_true_eq] at h3; omega))).symm, fun h3 => ?_⟩⟩
          have hk : nOk (mo n.toNat 1) b = true := nOk_of h2 (by simp only [decide_eq_false_iff_not] at h3; omega)
          refine ⟨⟨by omega, by omega⟩, ⟨1 + 1, by omega, fun _ => h0 (by omega), fun _ => hk, fun h => absurd h (by omega)⟩, by simp only; omega, Le.of [] (Nat.zero_le _) ?_ ?_ ?_⟩ <;> simp only [eL, eH, eG, leO, Nat.beq, reduceLT]
          rfl
        · simp only [decide_eq_false_iff_not] at h
          have em : mo n.toNat 1 = 0 := by unfold mo; rw [if_neg (by omega)]
          refine ⟨fun h2 => (bad1 (nOk_lo h2)).symm, fun h2 => ⟨fun h3 => (bad1 (nOk_hi (by simp only [decide_eq_true_eq] at h3; omega))).symm, fun h3 => ?_⟩⟩
          have hk : nOk (mo n.toNat 1) b = true := nOk_of h2 (by simp only [decide_eq_false_iff_not] at h3; omega)
          refine ⟨⟨by omega, by omega⟩, ⟨1 + 1, by omega, fun _ => h0 (by omega), fun _ => hk, fun h => absurd h (by omega)⟩, by simp only; omega, Le.of [] (Nat.zero_le _) ?_ ?_ ?_⟩ <;> simp only [eL, eH, eG, leO, Nat.beq, reduceLT]
          rfl
      · simp only [hT, hsz, Int.ofNat_zero, Int.cast_ofNat_Int, Int.reduceLT, decide_true, If_lit, eA, Nat.beq, List.toArray, reduceAdd, reduceLT, reduceLeDiff, reduceToNat]
        (try unfold lim); repeat first | ((with_reducible refine And.intro ?_ ?_); (first | omega | exact ⟨by omega, by omega⟩ | rfl)) | intro _
        refine ⟨fun h => ?_, fun h => ?_⟩
        · simp only [decide_eq_true_eq] at h
          have em : mo n.toNat 2 = mst ((Array.mk (kd n.toNat)).getD 2 0).toNat := by unfold mo; rw [if_pos (by omega)]
          (try unfold lim); repeat first | ((with_reducible refine And.intro ?_ ?_); (first | omega | exact ⟨by omega, by omega⟩ | rfl)) | intro _
          refine Fun.plain (mm 2) rfl rfl rfl rfl ?_; simp only [hT, eN, ↓If_lit, Int.reduceLT, Int.reduceLE, eA, Nat.beq, List.toArray, reduceAdd, reduceLT, reduceLeDiff, reduceToNat]; (try unfold lim); repeat first | ((with_reducible refine And.intro ?_ ?_); (first | omega | exact ⟨by omega, by omega⟩ | rfl)) | intro _
          refine ⟨fun h2 => (bad2 (nOk_lo h2)).symm, fun h2 => ⟨fun h3 => (bad2 (nOk_hi (by simp only [decide_eq_true_eq] at h3; omega))).symm, fun h3 => ?_⟩⟩
          have hk : nOk (mo n.toNat 2) c = true := nOk_of h2 (by simp only [decide_eq_false_iff_not] at h3; omega)
          refine ⟨⟨by omega, by omega⟩, ⟨2 + 1, by omega, fun _ => h0 (by omega), fun _ => h1 (by omega), fun _ => hk⟩, by simp only; omega, Le.of [] (Nat.zero_le _) ?_ ?_ ?_⟩ <;> simp only [eL, eH, eG, leO, Nat.beq, reduceLT]
          rfl
        · simp only [decide_eq_false_iff_not] at h
          have em : mo n.toNat 2 = 0 := by unfold mo; rw [if_neg (by omega)]
          refine ⟨fun h2 => (bad2 (nOk_lo h2)).symm, fun h2 => ⟨fun h3 => (bad2 (nOk_hi (by simp only [decide_eq_true_eq] at h3; omega))).symm, fun h3 => ?_⟩⟩
          have hk : nOk (mo n.toNat 2) c = true := nOk_of h2 (by simp only [decide_eq_false_iff_not] at h3; omega)
          refine ⟨⟨by omega, by omega⟩, ⟨2 + 1, by omega, fun _ => h0 (by omega), fun _ => h1 (by omega), fun _ => hk⟩, by simp only; omega, Le.of [] (Nat.zero_le _) ?_ ?_ ?_⟩ <;> simp only [eL, eH, eG, leO, Nat.beq, reduceLT]
          rfl
      · simp only [hT, Int.ofNat_zero, Int.cast_ofNat_Int, Int.reduceLT, decide_false, If_lit, eA, Nat.beq, List.toArray, reduceAdd, reduceLT, reduceLeDiff, reduceToNat]
        exact (good (h0 (by omega)) (h1 (by omega)) (h2 (by omega))).symm
theorem codOk_in {l : List VOrd} (h : l.length ≤ 24) (h' : ∀ j, j < l.length → ordIn l.length (l.getD j o0) = true) : codOk l = true := by
  unfold codOk
  rw [decide_eq_true h, (all_get l _ o0).2 h']; rfl
theorem codOk_not {l : List VOrd} {j : Nat} (hj : j < l.length) (h : ordIn l.length (l.getD j o0) = false) : codOk l = false := by
  unfold codOk
  rw [all_not o0 hj h, Bool.and_false]
theorem codOk_long {l : List VOrd} (h : ¬l.length ≤ 24) : codOk l = false := by
  unfold codOk
  rw [decide_eq_false h, Bool.false_and]
theorem upto {p : Nat → Prop} {i : Nat} (h : ∀ j, j < i → p j) (hi : p i) : ∀ j, j < i + 1 → p j := fun j hj => if e : j = i then e ▸ hi else h j (by omega)
theorem TY_codC {P : Program} (hP : P = Tryz.prog) : ((lkT P 154 = 1) ∧ ((elT P 154 = some ((true, (4, 32)))) ∧ (tyT P 274 = some ((true, 4))))) ∧ (((zeroT P 274 = some (((.int .i64 0) :: ((.int .i64 0) :: ((.int .i64 0) :: ((.int .i64 0) :: [])))))) ∧ (fldT P 274 0 = some ((0, (false, 1))))) ∧ ((tyT P 3 = some ((false, 1))) ∧ (fldT P 274 1 = some ((1, (false, 1)))))) := by subst hP; refine ⟨⟨?_, ⟨?_, ?_⟩⟩, ⟨⟨?_, ?_⟩, ⟨?_, ?_⟩⟩⟩ <;> kernel_rfl
theorem codOkI {P : Program} [Known P] (hP : P = Tryz.prog) (l : List VOrd) : Fun P 290 [codeS l] (.bool (codOk l)) := by
  refine fun_of (fn := Tryz.f290) (hP ▸ Tryz.func290) (by kernel_rfl) (by kernel_rfl) (by kernel_rfl) (by kernel_rfl) ?_
  have hT := TY_codC hP
  have oo := @ordOkI P _ hP
  clear hP
  intro hl
  simp only [limL, limA, and_true, List.length_map] at hl
  simp only [Tryz.f290, hT, eA, Nat.beq, List.toArray, reduceAdd, reduceLT, reduceLeDiff, reduceToNat]
  have hl' : l.length ≤ 140737488355328 := hl
  refine fun _ => ⟨fun h => ?_, fun h => ?_⟩
  · simp only [decide_eq_true_eq] at h
    exact (codOk_long (by omega)).symm
  · simp only [decide_eq_false_iff_not] at h
    intro _
    refine wpc_loop {i : Nat // i ≤ l.length ∧ ∀ j, j < i → ordIn l.length (l.getD j o0) = true} (fun i => ⟨[(0, codeS l), (8, codeS l), (9, .int .i64 l.length), (10, .int .i64 i.1)], [], 0⟩) (fun i => l.length - i.1) ⟨0, Nat.zero_le _, fun j hj => absurd hj (by omega)⟩ (Le.of [] (Nat.zero_le _) ?_ ?_ ?_) ?_
    · simp only [eL, eH, eG, leO, Nat.beq, reduceLT]
    · simp only [eL, eH, eG, leO, Nat.beq, reduceLT]; rfl
    · simp only [eL, eH, eG, leO, Nat.beq, reduceLT]
    · rintro ⟨i, hi, hp⟩
      simp only [hT, getOrd, ordE, eA, Nat.beq, List.toArray, reduceAdd, reduceLT, reduceLeDiff, reduceToNat]
      refine ⟨fun h2 => ?_, fun h2 => ?_⟩
      · simp only [decide_eq_true_eq] at h2
        have hil : i < l.length := by omega
        (try unfold lim); repeat first | ((with_reducible refine And.intro ?_ ?_); (first | omega | exact ⟨by omega, by omega⟩ | rfl)) | intro _
        have oi := oo (l.getD i o0)
        simp only [ordE] at oi
        refine Fun.plain (oi) rfl rfl rfl rfl ?_; simp only [hT, eN, ↓If_lit, Int.reduceLT, Int.reduceLE, eA, Nat.beq, List.toArray, reduceAdd, reduceLT, reduceLeDiff, reduceToNat]; (try unfold lim); repeat first | ((with_reducible refine And.intro ?_ ?_); (first | omega | exact ⟨by omega, by omega⟩ | rfl)) | intro _
        have next : ordIn l.length (l.getD i o0) = true → ∃ x' : {i : Nat // i ≤ l.length ∧ ∀ j, j < i → ordIn l.length (l.getD j o0) = true}, x'.val = i + 1 := fun h => ⟨⟨i + 1, hil, upto hp h⟩, rfl⟩
        generalize hR : codOk l = R
        have bad : ordIn l.length (l.getD i o0) = false → false = R := fun h => by rw [← hR, codOk_not hil h]
        unfold ordIn at bad next
        repeat' first
          | with_reducible refine If.mk (fun _ => ?_) (fun _ => ?_)
          | (intro _; done)
          | (with_reducible refine bad ?_; clear next bad oo oi hT; simp_all; done)
          | (refine ⟨⟨by omega, by omega⟩, ?_⟩
             obtain ⟨x', hx⟩ := next (by clear next bad oo oi hT; simp_all)
             refine ⟨x', by omega, Le.of [] (Nat.zero_le _) ?_ ?_ ?_⟩ <;> simp only [eL, eH, eG, leO, Nat.beq, reduceLT] <;> omega)
          | intro _
      · simp only [decide_eq_false_iff_not] at h2
        obtain rfl : i = l.length := by omega
        exact (codOk_in (by omega) hp).symm
end Go.Proofs.YtjlmfcddbcoimaaGreat.C
