/- Parts of the checks of a plan: labels that flow, guards, what is wrong first. -/
import Derived.Test.YtjlmfcddbcoimaaGreatCPlnA
set_option maxRecDepth 100000
set_option linter.unusedSimpArgs false
set_option linter.unusedVariables false
namespace Go.Proofs.YtjlmfcddbcoimaaGreat.C
open Go Go.Av Go.Proofs
open Nat (reduceAdd reduceLT reduceLeDiff reduceSub)
open Int (reduceToNat)
theorem bit_le : ∀ b d : _root_.Fin 16, decide (bitK .andNot .i64 (b.val : Int) (d.val : Int) = 0) = decide (bitK .or .i64 (b.val : Int) (d.val : Int) = d.val) := by decide +kernel
theorem TY_lblFl {P : Program} (hP : P = Tryz.prog) : ((tyT P 153 = some ((true, 2))) ∧ (fldT P 153 0 = some ((0, (false, 1))))) ∧ ((tyT P 3 = some ((false, 1))) ∧ (fldT P 153 1 = some ((1, (false, 1))))) := by subst hP; refine ⟨⟨?_, ?_⟩, ⟨?_, ?_⟩⟩ <;> kernel_rfl
theorem within {P : Program} [Known P] (hP : P = Tryz.prog) (b d : Int) : Fun P 319 [.int .i64 b, .int .i64 d] (.bool (decide (bitK .andNot .i64 b d = 0))) := by
  refine fun_of (fn := Tryz.f319) (hP ▸ Tryz.func319) (by kernel_rfl) (by kernel_rfl) (by kernel_rfl) (by kernel_rfl) ?_
  have hT := TY_lblFl hP
  clear hP
  intro hl
  clear hl
  simp only [Tryz.f319, hT, eA, Nat.beq, List.toArray, reduceAdd, reduceLT, reduceLeDiff, reduceToNat]
theorem flowsI {P : Program} [Known P] (hP : P = Tryz.prog) (a b c d : Int) : Fun P 294 [LB a b, LB c d] (.bool (lblFl a b c d)) := by
  refine fun_of (fn := Tryz.f294) (hP ▸ Tryz.func294) (by kernel_rfl) (by kernel_rfl) (by kernel_rfl) (by kernel_rfl) ?_
  have hT := TY_lblFl hP
  have ok := @lblOkI P _ hP
  have wi := @within P _ hP
  clear hP
  intro hl
  clear hl
  simp only [Tryz.f294, hT, eA, Nat.beq, List.toArray, reduceAdd, reduceLT, reduceLeDiff, reduceToNat]
  refine Fun.plain (ok a b) rfl rfl rfl rfl ?_; simp only [hT, eN, ↓If_lit, Int.reduceLT, Int.reduceLE, eA, Nat.beq, List.toArray, reduceAdd, reduceLT, reduceLeDiff, reduceToNat]; (try unfold lim); repeat first | ((with_reducible refine And.intro ?_ ?_); (first | omega | exact ⟨by omega, by omega⟩ | rfl)) | intro _
  unfold lblFl
  refine ⟨fun q => ?_, fun q => by rw [q]; rfl⟩
  refine Fun.plain (ok c d) rfl rfl rfl rfl ?_; simp only [hT, eN, ↓If_lit, Int.reduceLT, Int.reduceLE, eA, Nat.beq, List.toArray, reduceAdd, reduceLT, reduceLeDiff, reduceToNat]; (try unfold lim); repeat first | ((with_reducible refine And.intro ?_ ?_); (first | omega | exact ⟨by omega, by omega⟩ | rfl)) | intro _
  refine ⟨fun q1 => ⟨fun q2 => ?_, fun q2 => by rw [q, q1, q2]; rfl⟩, fun q1 => by rw [q, q1]; rfl⟩
  refine Fun.plain (wi b d) rfl rfl rfl rfl ?_; simp only [hT, eN, ↓If_lit, Int.reduceLT, Int.reduceLE, eA, Nat.beq, List.toArray, reduceAdd, reduceLT, reduceLeDiff, reduceToNat]; (try unfold lim); repeat first | ((with_reducible refine And.intro ?_ ?_); (first | omega | exact ⟨by omega, by omega⟩ | rfl)) | intro _
  obtain ⟨a', b', rfl, rfl, _, h1⟩ := lblOk_nat q
  obtain ⟨c', d', rfl, rfl, _, h2⟩ := lblOk_nat q1
  rw [q, q1, q2, bit_le ⟨b', by omega⟩ ⟨d', by omega⟩]; rfl
theorem flowsS {P : Program} [Known P] (hP : P = Tryz.prog) (a b c d : Int) : Fun P 279 [LB a b, LB c d] (.bool (lblFl a b c d)) := by
  refine fun_of (fn := Tryz.f279) (hP ▸ Tryz.func279) (by kernel_rfl) (by kernel_rfl) (by kernel_rfl) (by kernel_rfl) ?_
  have hT := TY_lblFl hP
  have ok := @lblOkS P _ hP
  clear hP
  intro hl
  clear hl
  simp only [Tryz.f279, hT, eA, Nat.beq, List.toArray, reduceAdd, reduceLT, reduceLeDiff, reduceToNat]
  refine Fun.plain (ok a b) rfl rfl rfl rfl ?_; simp only [hT, eN, ↓If_lit, Int.reduceLT, Int.reduceLE, eA, Nat.beq, List.toArray, reduceAdd, reduceLT, reduceLeDiff, reduceToNat]; (try unfold lim); repeat first | ((with_reducible refine And.intro ?_ ?_); (first | omega | exact ⟨by omega, by omega⟩ | rfl)) | intro _
  unfold lblFl
  refine ⟨fun q => ?_, fun q => by rw [q]; rfl⟩
  refine Fun.plain (ok c d) rfl rfl rfl rfl ?_; simp only [hT, eN, ↓If_lit, Int.reduceLT, Int.reduceLE, eA, Nat.beq, List.toArray, reduceAdd, reduceLT, reduceLeDiff, reduceToNat]; (try unfold lim); repeat first | ((with_reducible refine And.intro ?_ ?_); (first | omega | exact ⟨by omega, by omega⟩ | rfl)) | intro _
  refine ⟨fun q1 => ⟨fun q2 => ?_, fun q2 => by rw [q, q1, q2]; rfl⟩, fun q1 => by rw [q, q1]; rfl⟩
  rw [q, q1, q2]; rfl
def has (x n : Int) : Bool := decide (0 ≤ x) && decide (x < n)
theorem TY_plnHas {P : Program} (hP : P = Tryz.prog) : True := trivial
theorem plnHas {P : Program} [Known P] (hP : P = Tryz.prog) (x n : Int) : Fun P 62 [.int .i64 x, .int .i64 n] (.bool (has x n)) := by
  refine fun_of (fn := Tryz.f62) (hP ▸ Tryz.func62) (by kernel_rfl) (by kernel_rfl) (by kernel_rfl) (by kernel_rfl) ?_
  have hT := TY_plnHas hP
  clear hP
  intro hl
  clear hl
  simp only [Tryz.f62, hT, eA, Nat.beq, List.toArray, reduceAdd, reduceLT, reduceLeDiff, reduceToNat]
  exact ⟨fun q => by unfold has; rw [q]; rfl, fun q => by unfold has; rw [q]; rfl⟩
def ruleOk (r : VRule) : Bool := inR r.1 0 8 && (inR r.2.1 r.1 8 && (inR r.2.2.1 (-1) 7 && (inR r.2.2.2.1 0 255 && (inR r.2.2.2.2.1 r.2.2.2.1 255 && (inR r.2.2.2.2.2.1 (-1) 7 && inR r.2.2.2.2.2.2.1 0 8)))))
theorem TY_ruleOk {P : Program} (hP : P = Tryz.prog) : (((fldT P 276 0 = some ((0, (false, 1)))) ∧ (tyT P 3 = some ((false, 1)))) ∧ ((fldT P 276 1 = some ((1, (false, 1)))) ∧ (fldT P 276 2 = some ((2, (false, 1)))))) ∧ (((fldT P 276 5 = some ((5, (false, 1)))) ∧ (fldT P 276 3 = some ((3, (false, 1))))) ∧ ((fldT P 276 4 = some ((4, (false, 1)))) ∧ (fldT P 276 6 = some ((6, (false, 1)))))) := by subst hP; refine ⟨⟨⟨?_, ?_⟩, ⟨?_, ?_⟩⟩, ⟨⟨?_, ?_⟩, ⟨?_, ?_⟩⟩⟩ <;> kernel_rfl
theorem ruleOkI {P : Program} [Known P] (hP : P = Tryz.prog) (r : VRule) : Fun P 318 [.agg (ruleE r)] (.bool (ruleOk r)) := by
  refine fun_of (fn := Tryz.f318) (hP ▸ Tryz.func318) (by kernel_rfl) (by kernel_rfl) (by kernel_rfl) (by kernel_rfl) ?_
  have hT := TY_ruleOk hP
  clear hP
  intro hl
  clear hl
  obtain ⟨a, b, c, d, e, f, g, u⟩ := r
  simp only [ruleE, Tryz.f318, hT, eA, Nat.beq, List.toArray, reduceAdd, reduceLT, reduceLeDiff, reduceToNat]
  repeat' first
    | with_reducible refine If.mk (fun _ => ?_) (fun _ => ?_)
    | (with_reducible refine Eq.symm ?_; clear hT; unfold ruleOk inR; grind)
theorem ruleOkS {P : Program} [Known P] (hP : P = Tryz.prog) (r : VRule) : Fun P 321 [.agg (ruleE r)] (.bool (ruleOk r)) := by
  refine fun_of (fn := Tryz.f321) (hP ▸ Tryz.func321) (by kernel_rfl) (by kernel_rfl) (by kernel_rfl) (by kernel_rfl) ?_
  have hT := TY_ruleOk hP
  have h18 := fun a b c => l1In hP a b c
  clear hP
  intro hl
  clear hl
  obtain ⟨a, b, c, d, e, f, g, u⟩ := r
  simp only [ruleE, Tryz.f321, hT, eA, Nat.beq, List.toArray, reduceAdd, reduceLT, reduceLeDiff, reduceToNat]
  repeat' first
    | with_reducible refine If.mk (fun _ => ?_) (fun _ => ?_)
    | (with_reducible refine Eq.symm ?_; clear h18 hT; unfold ruleOk inR; grind)
    | (refine Fun.plain (h18 _ _ _) rfl rfl rfl rfl ?_; simp only [hT, eA, Nat.beq, List.toArray, reduceAdd, reduceLT, reduceLeDiff, reduceToNat])
def grdOk (l : List VRule) : Bool := decide (l.length ≤ 4) && l.all ruleOk
theorem TY_grdOk {P : Program} (hP : P = Tryz.prog) : ((lkT P 158 = 1) ∧ (elT P 158 = some ((true, (7, 56))))) ∧ ((tyT P 276 = some ((true, 7))) ∧ (zeroT P 276 = some (((.int .i64 0) :: ((.int .i64 0) :: ((.int .i64 0) :: ((.int .i64 0) :: ((.int .i64 0) :: ((.int .i64 0) :: ((.int .i64 0) :: [])))))))))) := by subst hP; refine ⟨⟨?_, ?_⟩, ⟨?_, ?_⟩⟩ <;> kernel_rfl
theorem grdOkI {P : Program} [Known P] (hP : P = Tryz.prog) (l : List VRule) : Fun P 292 [grdS l] (.bool (grdOk l)) := by
  refine fun_of (fn := Tryz.f292) (hP ▸ Tryz.func292) (by kernel_rfl) (by kernel_rfl) (by kernel_rfl) (by kernel_rfl) ?_
  have hT := TY_grdOk hP
  have oo := @ruleOkI P _ hP
  clear hP
  intro hl
  simp only [limL, limA, and_true, List.length_map] at hl
  simp only [Tryz.f292, hT, eA, Nat.beq, List.toArray, reduceAdd, reduceLT, reduceLeDiff, reduceToNat]
  have hl' : l.length ≤ 140737488355328 := hl
  refine fun _ => ⟨fun h => ?_, fun h => ?_⟩
  · simp only [decide_eq_true_eq] at h
    unfold grdOk; rw [decide_eq_false (by omega)]; rfl
  · simp only [decide_eq_false_iff_not] at h
    intro _
    refine wpc_loop {i : Nat // i ≤ l.length ∧ ∀ j, j < i → ruleOk (l.getD j r0) = true} (fun i => ⟨[(0, grdS l), (8, grdS l), (9, .int .i64 l.length), (10, .int .i64 i.1)], [], 0⟩) (fun i => l.length - i.1) ⟨0, Nat.zero_le _, fun j hj => absurd hj (by omega)⟩ (Le.of [] (Nat.zero_le _) ?_ ?_ ?_) ?_
    · simp only [eL, eH, eG, leO, Nat.beq, reduceLT]
    · simp only [eL, eH, eG, leO, Nat.beq, reduceLT]; rfl
    · simp only [eL, eH, eG, leO, Nat.beq, reduceLT]
    · rintro ⟨i, hi, hp⟩
      simp only [hT, eA, Nat.beq, List.toArray, reduceAdd, reduceLT, reduceLeDiff, reduceToNat]
      refine ⟨fun h2 => ?_, fun h2 => ?_⟩
      · simp only [decide_eq_true_eq] at h2
        have hil : i < l.length := by omega
        have hg : ∀ d, (l.map ruleE).getD i d = ruleE (l.getD i r0) := fun d => getIn ruleE l i d r0 hil
        have oi := oo (l.getD i r0)
        simp only [ruleE] at oi
        simp only [hT, hg, ruleE, eA, Nat.beq, List.toArray, reduceAdd, reduceLT, reduceLeDiff, reduceToNat]
        (try unfold lim); repeat first | ((with_reducible refine And.intro ?_ ?_); (first | omega | exact ⟨by omega, by omega⟩ | rfl)) | intro _
        refine Fun.plain (oi) rfl rfl rfl rfl ?_; simp only [hT, eN, ↓If_lit, Int.reduceLT, Int.reduceLE, eA, Nat.beq, List.toArray, reduceAdd, reduceLT, reduceLeDiff, reduceToNat]; (try unfold lim); repeat first | ((with_reducible refine And.intro ?_ ?_); (first | omega | exact ⟨by omega, by omega⟩ | rfl)) | intro _
        refine ⟨fun q => ?_, fun q => ?_⟩
        · unfold grdOk; rw [all_not r0 hil (by simpa using q), Bool.and_false]
        · refine ⟨⟨by omega, by omega⟩, ⟨i + 1, hil, upto hp (by simpa using q)⟩, by simp only; omega, Le.of [] (Nat.zero_le _) ?_ ?_ ?_⟩ <;> simp only [eL, eH, eG, leO, Nat.beq, reduceLT] <;> omega
      · simp only [decide_eq_false_iff_not] at h2
        obtain rfl : i = l.length := by omega
        unfold grdOk; rw [decide_eq_true (by omega), (all_get l _ r0).2 hp]; rfl
theorem grdOkS {P : Program} [Known P] (hP : P = Tryz.prog) (l : List VRule) : Fun P 314 [grdS l] (.bool (grdOk l)) := by
  refine fun_of (fn := Tryz.f314) (hP ▸ Tryz.func314) (by kernel_rfl) (by kernel_rfl) (by kernel_rfl) (by kernel_rfl) ?_
  have hT := TY_grdOk hP
  have oo := @ruleOkS P _ hP
  clear hP
  intro hl
  simp only [limL, limA, and_true, List.length_map] at hl
  simp only [Tryz.f314, hT, eA, Nat.beq, List.toArray, reduceAdd, reduceLT, reduceLeDiff, reduceToNat]
  have hl' : l.length ≤ 140737488355328 := hl
  refine fun _ => ⟨fun h => ?_, fun h => ?_⟩
  · simp only [decide_eq_true_eq] at h
    unfold grdOk; rw [decide_eq_false (by omega)]; rfl
  · simp only [decide_eq_false_iff_not] at h
    refine wpc_loop {i : Nat // i ≤ l.length ∧ ∀ j, j < i → ruleOk (l.getD j r0) = true} (fun i => ⟨[(0, grdS l), (3, .int .i64 i.1)], [], 0⟩) (fun i => l.length - i.1) ⟨0, Nat.zero_le _, fun j hj => absurd hj (by omega)⟩ (Le.of [] (Nat.zero_le _) ?_ ?_ ?_) ?_
    · simp only [eL, eH, eG, leO, Nat.beq, reduceLT]
    · simp only [eL, eH, eG, leO, Nat.beq, reduceLT]; rfl
    · simp only [eL, eH, eG, leO, Nat.beq, reduceLT]
    · rintro ⟨i, hi, hp⟩
      simp only [hT, eA, Nat.beq, List.toArray, reduceAdd, reduceLT, reduceLeDiff, reduceToNat]
      refine fun _ => ⟨fun h2 => ?_, fun h2 => ?_⟩
      · simp only [decide_eq_true_eq] at h2
        have hil : i < l.length := by omega
        have hg : ∀ d, (l.map ruleE).getD i d = ruleE (l.getD i r0) := fun d => getIn ruleE l i d r0 hil
        have oi := oo (l.getD i r0)
        simp only [ruleE] at oi
        simp only [hT, hg, ruleE, eA, Nat.beq, List.toArray, reduceAdd, reduceLT, reduceLeDiff, reduceToNat]
        (try unfold lim); repeat first | ((with_reducible refine And.intro ?_ ?_); (first | omega | exact ⟨by omega, by omega⟩ | rfl)) | intro _
        refine Fun.plain (oi) rfl rfl rfl rfl ?_; simp only [hT, eN, ↓If_lit, Int.reduceLT, Int.reduceLE, eA, Nat.beq, List.toArray, reduceAdd, reduceLT, reduceLeDiff, reduceToNat]; (try unfold lim); repeat first | ((with_reducible refine And.intro ?_ ?_); (first | omega | exact ⟨by omega, by omega⟩ | rfl)) | intro _
        refine ⟨fun q => ?_, fun q => ?_⟩
        · unfold grdOk; rw [all_not r0 hil (by simpa using q), Bool.and_false]
        · refine ⟨⟨by omega, by omega⟩, ⟨i + 1, hil, upto hp (by simpa using q)⟩, by simp only; omega, Le.of [] (Nat.zero_le _) ?_ ?_ ?_⟩ <;> simp only [eL, eH, eG, leO, Nat.beq, reduceLT] <;> omega
      · simp only [decide_eq_false_iff_not] at h2
        obtain rfl : i = l.length := by omega
        unfold grdOk; rw [decide_eq_true (by omega), (all_get l _ r0).2 hp]; rfl
/-! What is wrong first. -/
/-- The first of so many places that is wrong; as many as there are, if none is. -/
def fb (n : Nat) (bad : Nat → Bool) : Nat := ((List.range n).find? bad).getD n
theorem fb_at {n i : Nat} {bad : Nat → Bool} (h : i < n) (hb : bad i = true) (hp : ∀ j, j < i → bad j = false) : fb n bad = i := by
  unfold fb
  have : (List.range n).find? bad = some i := by
    rw [List.find?_range_eq_some]
    exact ⟨hb, by simpa using h, fun j hj => by rw [hp j hj]; rfl⟩
  rw [this]; rfl
theorem fb_none {n : Nat} {bad : Nat → Bool} (hp : ∀ j, j < n → bad j = false) : fb n bad = n := by
  unfold fb
  have : (List.range n).find? bad = none := by
    rw [List.find?_eq_none]
    intro j hj
    rw [hp j (by simpa using hj)]; simp
  rw [this]; rfl
theorem fb_ok {n : Nat} {bad : Nat → Bool} (h : ¬fb n bad < n) : ∀ j, j < n → bad j = false := by
  intro j hj
  cases hb : bad j with
  | false => rfl
  | true =>
    exfalso
    apply h
    unfold fb
    cases hf : (List.range n).find? bad with
    | none =>
      rw [List.find?_eq_none] at hf
      exact absurd hb (hf j (by simpa using hj))
    | some i =>
      have := List.mem_of_find?_eq_some hf
      simpa using this
theorem fb_le (n : Nat) (bad : Nat → Bool) : fb n bad ≤ n := by
  unfold fb
  cases hf : (List.range n).find? bad with
  | none => exact Nat.le_refl _
  | some i =>
    have := List.mem_of_find?_eq_some hf
    have : i < n := by simpa using this
    simp only [Option.getD_some]; omega
theorem fb_congr {n : Nat} {bad bad' : Nat → Bool} (h : ∀ j, j < n → bad j = bad' j) : fb n bad = fb n bad' := by
  unfold fb
  have key : ∀ (l : List Nat), (∀ x ∈ l, x < n) → l.find? bad = l.find? bad' := by
    intro l
    induction l with
    | nil => intro _; rfl
    | cons x l ih =>
      intro hx
      rw [List.find?_cons, List.find?_cons, h x (hx x (by simp)), ih (fun y hy => hx y (by simp [hy]))]
  rw [key _ (fun x hx => by simpa using hx)]
/-- What a check tells: nothing, or a fault. -/
abbrev FT (c k : Int) : AV := .iface 314 (.agg [.int .i64 c, .int .i64 k])
def flt : Option (Nat × Nat) → AV
  | none => .nilif
  | some (c, k) => FT c k
def when (c : Nat) (b : Bool) : Option (Nat × Nat) := bif b then some (c, 0) else none
def first (c n : Nat) (bad : Nat → Bool) : Option (Nat × Nat) := if fb n bad < n then some (c, fb n bad) else none
theorem TY_plnWhen {P : Program} (hP : P = Tryz.prog) : ((zeroT P 314 = some (((.int .i64 0) :: ((.int .i64 0) :: [])))) ∧ (bldT P 314 = true)) ∧ ((plT P 314 0 = some ((0, 1))) ∧ ((plT P 314 1 = some ((1, 1))) ∧ (ncT P 314 = true))) := by subst hP; refine ⟨⟨?_, ?_⟩, ⟨?_, ⟨?_, ?_⟩⟩⟩ <;> kernel_rfl
theorem plnWhen {P : Program} [Known P] (hP : P = Tryz.prog) (b : Bool) (c : Nat) (hc : c ≤ 100) : FunX P 286 0 [.bool b, .int .i64 c] [] (fun r h => r = flt (when c b) ∧ h = []) := by
  refine fun_ofX (fn := Tryz.f286) (hP ▸ Tryz.func286) (by kernel_rfl) (by kernel_rfl) (by kernel_rfl) (by kernel_rfl) ?_
  have hT := TY_plnWhen hP
  clear hP
  intro hl
  clear hl
  simp only [Tryz.f286, hT, eA, Nat.beq, List.toArray, reduceAdd, reduceLT, reduceLeDiff, reduceToNat]
  refine ⟨fun q => ⟨_, _, ⟨rfl, rfl⟩, ?_, trivial⟩, fun q => ⟨_, _, ⟨rfl, rfl⟩, ?_, trivial⟩⟩
  · rw [q]; simp only [when, cond_true, flt, eA, Nat.beq, List.toArray, reduceAdd, reduceLT, reduceLeDiff, reduceToNat]; rfl
  · rw [q]; simp only [when, cond_false, flt, eA, Nat.beq, List.toArray, reduceAdd, reduceLT, reduceLeDiff, reduceToNat]
theorem first_at {c n i : Nat} {bad : Nat → Bool} (h : i < n) (hb : bad i = true) (hp : ∀ j, j < i → bad j = false) : first c n bad = some (c, i) := by
  unfold first; rw [fb_at h hb hp, if_pos h]
theorem first_none {c n : Nat} {bad : Nat → Bool} (hp : ∀ j, j < n → bad j = false) : first c n bad = none := by
  unfold first; rw [fb_none hp, if_neg (by omega)]
theorem plnFirst {P : Program} [Known P] (hP : P = Tryz.prog) (n c : Nat) (hn : n ≤ 1048576) (g : FuncId) (caps : List AV) (bad : Nat → Bool) (hb : ∀ k : Nat, k < n → (∀ j, j < k → bad j = false) → Fun P g [.int .i64 k, .rp caps] (.bool (bad k))) :
    FunX P 287 0 [.int .i64 n, .int .i64 c, .fn g [.rp caps]] [] (fun r h => r = flt (first c n bad) ∧ h = []) := by
  refine fun_ofX (fn := Tryz.f287) (hP ▸ Tryz.func287) (by kernel_rfl) (by kernel_rfl) (by kernel_rfl) (by kernel_rfl) ?_
  have hT := TY_plnWhen hP
  clear hP
  intro hl
  clear hl
  simp only [Tryz.f287, hT, eA, Nat.beq, List.toArray, reduceAdd, reduceLT, reduceLeDiff, reduceToNat]
  refine wpc_loop {i : Nat // i ≤ n ∧ ∀ j, j < i → bad j = false} (fun i => ⟨[(1, .int .i64 c), (2, .fn g [.rp caps]), (8, .int .i64 n), (9, .int .i64 i.1)], [], 0⟩) (fun i => n - i.1) ⟨0, Nat.zero_le _, fun j hj => absurd hj (by omega)⟩ (Le.of [] (Nat.zero_le _) ?_ ?_ ?_) ?_
  · simp only [eL, eH, eG, leO, Nat.beq, reduceLT]
  · simp only [eL, eH, eG, leO, Nat.beq, reduceLT]; rfl
  · simp only [eL, eH, eG, leO, Nat.beq, reduceLT]
  · rintro ⟨i, hi, hp⟩
    simp only [hT, eA, Nat.beq, List.toArray, reduceAdd, reduceLT, reduceLeDiff, reduceToNat]
    refine ⟨fun h => ?_, fun h => ?_⟩
    · simp only [decide_eq_true_eq] at h
      have hin : i < n := by omega
      refine Fun.plain (hb i hin hp) rfl rfl rfl rfl ?_; simp only [hT, eN, ↓If_lit, Int.reduceLT, Int.reduceLE, eA, Nat.beq, List.toArray, reduceAdd, reduceLT, reduceLeDiff, reduceToNat]; (try unfold lim); repeat first | ((with_reducible refine And.intro ?_ ?_); (first | omega | exact ⟨by omega, by omega⟩ | rfl)) | intro _
      refine ⟨fun q => ⟨_, _, ⟨rfl, rfl⟩, ?_, trivial⟩, fun q => ⟨⟨by omega, by omega⟩, ⟨i + 1, hin, upto hp q⟩, by simp only; omega, Le.of [] (Nat.zero_le _) ?_ ?_ ?_⟩⟩
      · rw [first_at hin q hp]; simp only [flt, eA, Nat.beq, List.toArray, reduceAdd, reduceLT, reduceLeDiff, reduceToNat]
      all_goals simp only [eL, eH, eG, leO, Nat.beq, reduceLT] <;> omega
    · simp only [decide_eq_false_iff_not] at h
      obtain rfl : i = n := by omega
      refine ⟨_, _, ⟨rfl, rfl⟩, ?_, trivial⟩
      rw [first_none hp]; simp only [flt, eA, Nat.beq, List.toArray, reduceAdd, reduceLT, reduceLeDiff, reduceToNat]
end Go.Proofs.YtjlmfcddbcoimaaGreat.C
