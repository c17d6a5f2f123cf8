/- Marks in a node of one's own, and whether they hold. -/
import Derived.Test.YtjlmfcddbcoimaaGreatCNodA
set_option maxRecDepth 100000
set_option maxHeartbeats 4000000
set_option linter.unusedSimpArgs false
set_option linter.unusedVariables false
namespace Go.Proofs.YtjlmfcddbcoimaaGreat.C
open Go Go.Av Go.Proofs
open Nat (reduceAdd reduceLT reduceLeDiff reduceSub)
open Int (reduceToNat)
theorem getD_mid {α : Type} (a b : List α) (x d : α) : (a ++ x :: b).getD a.length d = x := by
  rw [List.getD_eq_getElem?_getD, List.getElem?_append_right (Nat.le_refl _), Nat.sub_self]; rfl
theorem set_mid {α : Type} (a b : List α) (x y : α) : (a ++ x :: b).set a.length y = a ++ y :: b := by
  rw [List.set_append_right _ _ (Nat.le_refl _), Nat.sub_self]; rfl
def sumC {α : Type} (c : α → Nat) : List α → Nat
  | [] => 0
  | x :: l => c x + sumC c l
theorem sumC_append {α : Type} (c : α → Nat) : ∀ a b : List α, sumC c (a ++ b) = sumC c a + sumC c b
  | [], b => by simp [sumC]
  | x :: a, b => by simp only [List.cons_append, sumC, sumC_append c a b]; omega
/-- Values marked one behind the other. -/
def mks {α : Type} (f : Int → α → α) (c : α → Nat) : Int → List α → List α
  | _, [] => []
  | k, x :: l => f k x :: mks f c (k + c x) l
theorem mks_append {α : Type} (f : Int → α → α) (c : α → Nat) : ∀ (k : Int) (a b : List α), mks f c k (a ++ b) = mks f c k a ++ mks f c (k + sumC c a) b
  | k, [], b => by simp [mks, sumC]
  | k, x :: a, b => by
    simp only [List.cons_append, mks, mks_append f c (k + c x) a b, sumC]
    rw [show k + (c x : Int) + (sumC c a : Nat) = k + ((c x + sumC c a : Nat) : Int) by omega]
theorem mks_length {α : Type} (f : Int → α → α) (c : α → Nat) : ∀ (k : Int) (a : List α), (mks f c k a).length = a.length
  | k, [] => rfl
  | k, x :: a => by simp only [mks, List.length_cons, mks_length f c _ a]
/-- What is done and what is to come. -/
structure Zr {α : Type} (l : List α) where
  a : List α
  b : List α
  h : a ++ b = l
theorem np_mks {α : Type} (f : α → List AV) (hf : ∀ x, npL (f x) = true) (l : List α) : ∀ r ∈ l.map f, npL r = true := fun r hr => by
  obtain ⟨x, _, rfl⟩ := List.mem_map.1 hr
  exact hf x
def mkI (k : Int) (n : Nat) : List Int := mks (fun k _ => k) (fun _ => 1) k (List.replicate n 0)
theorem mkI_mks (k : Int) (l : List Int) : mkI k l.length = mks (fun k _ => k) (fun _ => 1) k l := by
  unfold mkI
  induction l generalizing k with
  | nil => rfl
  | cons x l ih => simp only [List.length_cons, List.replicate_succ, mks, ih]
theorem sum1 {α : Type} (l : List α) : sumC (fun _ => 1) l = l.length := by
  induction l with
  | nil => rfl
  | cons x l ih => simp only [sumC, ih, List.length_cons]; omega
def mkB (k : Int) (n : Nat) : List UInt8 := mkl k.toNat n
theorem mkB_length (k : Int) (n : Nat) : (mkB k n).length = n := mkl_length _ _
theorem mkI_length (k : Int) (n : Nat) : (mkI k n).length = n := by unfold mkI; rw [mks_length, List.length_replicate]
theorem markByteZ {P : Program} [Known P] (hP : P = Tryz.prog) (l : List UInt8) (k : Int) (h1 : 0 ≤ k) (h2 : k ≤ 1000000000000) : FunM P 173 1 [.os 0, .int .i64 k] [(0, BH l)] (.int .i64 (k + l.length)) [(0, BH (mkB k l.length))] := by
  obtain ⟨m, rfl⟩ := Int.eq_ofNat_of_zero_le h1
  have := markByteS hP l m (by omega)
  simpa only [mkB, Int.toNat_natCast, Int.natCast_add] using this
theorem heldByteZ {P : Program} [Known P] (hP : P = Tryz.prog) (n : Nat) (k : Int) (h1 : 0 ≤ k) (h2 : k ≤ 1000000000000) : Fun P 175 [B (mkB k n), .int .i64 k] (.int .i64 (k + n)) := by
  obtain ⟨m, rfl⟩ := Int.eq_ofNat_of_zero_le h1
  have := heldByteS hP m n (by omega)
  simpa only [mkB, Int.toNat_natCast, Int.natCast_add] using this
/-- No object is named in it. -/
def cln (r : List AV) : Prop := ∀ (ρ : Ren) (N : Nat), nblL ρ N r ∧ subL r (renL ρ r)
theorem leR_cln (ρ : Ren) (N : Nat) : ∀ (b : List (List AV)), (∀ r ∈ b, cln r) → leR ρ N b b
  | [], _ => trivial
  | r :: b, h => ⟨(h r List.mem_cons_self ρ N).1, (h r List.mem_cons_self ρ N).2, leR_cln ρ N b fun r' h' => h r' (List.mem_cons_of_mem _ h')⟩
theorem leR_mid (ρ : Ren) (N : Nat) (x y : List AV) (b : List (List AV)) (hb : ∀ r ∈ b, cln r) (h : nblL ρ N y ∧ subL x (renL ρ y)) : ∀ (a : List (List AV)), (∀ r ∈ a, cln r) → leR ρ N (a ++ x :: b) (a ++ y :: b)
  | [], _ => ⟨h.1, h.2, leR_cln ρ N b hb⟩
  | r :: a, ha => ⟨(ha r List.mem_cons_self ρ N).1, (ha r List.mem_cons_self ρ N).2, leR_mid ρ N x y b hb h a fun r' h' => ha r' (List.mem_cons_of_mem _ h')⟩
theorem cln_intE (l : List Int) : ∀ r ∈ l.map intE, cln r := by
  intro r hr
  obtain ⟨x, _, rfl⟩ := List.mem_map.1 hr
  intro ρ N
  simp only [intE, eL, eH, eG, leO, Nat.beq, reduceLT]
theorem cln_msgO (l : List (List UInt8)) : ∀ r ∈ l.map msgO, cln r := by
  intro r hr
  obtain ⟨x, _, rfl⟩ := List.mem_map.1 hr
  intro ρ N
  simp only [msgO, eL, eH, eG, leO, Nat.beq, reduceLT]
theorem cln_celO (l : List VCel) : ∀ r ∈ l.map celO, cln r := by
  intro r hr
  obtain ⟨x, _, rfl⟩ := List.mem_map.1 hr
  intro ρ N
  simp only [celO, eL, eH, eG, leO, Nat.beq, reduceLT]
theorem cln_boxO (l : List VBox) : ∀ r ∈ l.map boxO, cln r := by
  intro r hr
  obtain ⟨x, _, rfl⟩ := List.mem_map.1 hr
  intro ρ N
  simp only [boxO, eL, eH, eG, leO, Nat.beq, reduceLT]
theorem cln_outE (l : List VOut) : ∀ r ∈ l.map outE, cln r := by
  intro r hr
  obtain ⟨x, _, rfl⟩ := List.mem_map.1 hr
  intro ρ N
  simp only [outE, eL, eH, eG, leO, Nat.beq, reduceLT]
theorem cln_innE (l : List VInn) : ∀ r ∈ l.map innE, cln r := by
  intro r hr
  obtain ⟨x, _, rfl⟩ := List.mem_map.1 hr
  intro ρ N
  simp only [innE, eL, eH, eG, leO, Nat.beq, reduceLT]
theorem np_intE (x : Int) : npL (intE x) = true := rfl
theorem TY_markIntS {P : Program} (hP : P = Tryz.prog) : (lkT P 33 = 1) ∧ ((elT P 33 = some ((false, (1, 8)))) ∧ (tyT P 3 = some ((false, 1)))) := by subst hP; refine ⟨?_, ⟨?_, ?_⟩⟩ <;> kernel_rfl
theorem markIntS {P : Program} [Known P] (hP : P = Tryz.prog) (l : List Int) (k : Int) (h1 : 0 ≤ k) (h2 : k + sumC (fun _ : Int => 1) l ≤ 1000000000000) : FunM P 172 1 [.os 0, .int .i64 k] [(0, ⟨1, l.map intE, iZ, true⟩)] (.int .i64 (k + sumC (fun _ : Int => 1) l)) [(0, ⟨1, (mks (fun (k : Int) (_ : Int) => k) (fun _ : Int => 1) k l).map intE, iZ, false⟩)] := by
  refine FunX.m ?_
  refine fun_ofG (fn := Tryz.f172) (hP ▸ Tryz.func172) (by kernel_rfl) (by kernel_rfl) (by kernel_rfl) (by kernel_rfl) ?_
  have hT := TY_markIntS hP
  clear hP
  intro hl
  clear hl
  simp only [Tryz.f172, hT, eA, Nat.beq, List.toArray, reduceAdd, reduceLT, reduceLeDiff, reduceToNat]
  refine wpc_loop (Zr l) (fun z => ⟨[(0, .os 0), (1, .int .i64 (k + sumC (fun _ : Int => 1) z.a)), (5, .int .i64 z.a.length)], [(0, ⟨1, (mks (fun (k : Int) (_ : Int) => k) (fun _ : Int => 1) k z.a).map intE ++ z.b.map intE, iZ, true⟩)], 1⟩) (fun z => z.b.length) ⟨[], l, rfl⟩ (Le.of [] (Nat.le_refl _) ?_ ?_ ?_) ?_
  · simp only [eL, eH, eG, leO, Nat.beq, reduceLT]
  · simp only [eL, eH, eG, leO, Nat.beq, reduceLT]; simp [sumC]
  · simp only [eL, eH, eG, leO, Nat.beq, reduceLT]; exact leR_cln _ _ _ (cln_intE l)
  · rintro ⟨a, b, hz⟩
    cases b with
    | nil =>
      obtain rfl : a = l := by simpa using hz
      have hA : ((mks (fun (k : Int) (_ : Int) => k) (fun _ : Int => 1) k a).map intE).length = a.length := by rw [List.length_map, mks_length]
      have hf : decide ((a.length : Int) < a.length) = false := decide_eq_false (by omega)
      simp only [hT, List.map_nil, List.append_nil, hA, hf, ↓If_lit, eA, Nat.beq, List.toArray, reduceAdd, reduceLT, reduceLeDiff, reduceToNat]
      (try unfold lim); repeat first | ((with_reducible refine And.intro ?_ ?_); (first | omega | exact ⟨by omega, by omega⟩ | rfl)) | intro _
      refine RetG.le (Le.shut 0 _ (by simp only; omega) (by rfl) (np_mks _ np_intE _)) (RetG.fin ?_)
      simp only [eA, Nat.beq, List.toArray, reduceAdd, reduceLT, reduceLeDiff, reduceToNat]
      exact ⟨_, _, ⟨rfl, rfl⟩, ⟨rfl, rfl⟩, ⟨rfl, trivial⟩⟩
    | cons x b =>
      have hsl : sumC (fun _ : Int => 1) l = sumC (fun _ : Int => 1) a + (1 + sumC (fun _ : Int => 1) b) := by rw [← hz, sumC_append]; rfl
      have hA : ((mks (fun (k : Int) (_ : Int) => k) (fun _ : Int => 1) k a).map intE).length = a.length := by rw [List.length_map, mks_length]
      have hnew : (mks (fun (k : Int) (_ : Int) => k) (fun _ : Int => 1) k (a ++ [x])).map intE = (mks (fun (k : Int) (_ : Int) => k) (fun _ : Int => 1) k a).map intE ++ [intE ((fun (k : Int) (_ : Int) => k) (k + sumC (fun _ : Int => 1) a) x)] := by rw [mks_append, List.map_append]; rfl
      have hsa : sumC (fun _ : Int => 1) (a ++ [x]) = sumC (fun _ : Int => 1) a + 1 := by rw [sumC_append]; rfl
      have hca : ∀ r ∈ (mks (fun (k : Int) (_ : Int) => k) (fun _ : Int => 1) k a).map intE, cln r := cln_intE _
      generalize (mks (fun (k : Int) (_ : Int) => k) (fun _ : Int => 1) k a).map intE = A at *
      generalize sumC (fun _ : Int => 1) a = m at *
      have hf : decide ((A.length : Int) < (A.length + (b.length + 1) : Nat)) = true := decide_eq_true (by omega)
      simp only [← hA]
      simp only [hT, List.map_cons, hf, getD_mid, set_mid, List.length_append, List.length_cons, List.length_map, intE, Int.toNat_natCast, ↓If_lit, eA, Nat.beq, List.toArray, reduceAdd, reduceLT, reduceLeDiff, reduceToNat]
      (try unfold lim); repeat first | ((with_reducible refine And.intro ?_ ?_); (first | omega | exact ⟨by omega, by omega⟩ | rfl)) | intro _
      refine ⟨⟨a ++ [x], b, by rw [← hz]; simp⟩, Nat.lt_succ_self _, ?_⟩
      refine Le.of [] (Nat.le_refl _) ?_ ?_ ?_
      · simp only [eL, eH, eG, leO, Nat.beq, reduceLT]
      · simp only [eL, eH, eG, leO, Nat.beq, reduceLT]; simp [hsa, hA]; omega
      · simp only [eL, eH, eG, leO, Nat.beq, reduceLT, hnew, intE, List.append_assoc, List.cons_append, List.nil_append]
        exact leR_mid _ _ _ _ _ (cln_intE b) (by simp only [eL, eH, eG, leO, Nat.beq, reduceLT]) A hca
theorem TY_heldIntS {P : Program} (hP : P = Tryz.prog) : (lkT P 33 = 1) ∧ ((elT P 33 = some ((false, (1, 8)))) ∧ (tyT P 3 = some ((false, 1)))) := by subst hP; refine ⟨?_, ⟨?_, ?_⟩⟩ <;> kernel_rfl
theorem heldIntS {P : Program} [Known P] (hP : P = Tryz.prog) (l : List Int) (k : Int) (h1 : 0 ≤ k) (h2 : k + sumC (fun _ : Int => 1) l ≤ 1000000000000) : Fun P 174 [.sl 1 ((mks (fun (k : Int) (_ : Int) => k) (fun _ : Int => 1) k l).map intE) iZ, .int .i64 k] (.int .i64 (k + sumC (fun _ : Int => 1) l)) := by
  refine fun_of (fn := Tryz.f174) (hP ▸ Tryz.func174) (by kernel_rfl) (by kernel_rfl) (by kernel_rfl) (by kernel_rfl) ?_
  have hT := TY_heldIntS hP
  clear hP
  intro hl
  clear hl
  simp only [Tryz.f174, hT, eA, Nat.beq, List.toArray, reduceAdd, reduceLT, reduceLeDiff, reduceToNat]
  refine wpc_loop (Zr l) (fun z => ⟨[(0, .sl 1 ((mks (fun (k : Int) (_ : Int) => k) (fun _ : Int => 1) k l).map intE) iZ), (1, .int .i64 (k + sumC (fun _ : Int => 1) z.a)), (5, .int .i64 z.a.length)], [], 0⟩) (fun z => z.b.length) ⟨[], l, rfl⟩ (Le.of [] (Nat.le_refl _) ?_ ?_ ?_) ?_
  · simp only [eL, eH, eG, leO, Nat.beq, reduceLT]
  · simp only [eL, eH, eG, leO, Nat.beq, reduceLT]; simp [sumC]
  · simp only [eL, eH, eG, leO, Nat.beq, reduceLT]
  · rintro ⟨a, b, hz⟩
    cases b with
    | nil =>
      obtain rfl : a = l := by simpa using hz
      have hf : decide ((a.length : Int) < a.length) = false := decide_eq_false (by omega)
      simp only [hT, List.length_map, mks_length, hf, ↓If_lit, eA, Nat.beq, List.toArray, reduceAdd, reduceLT, reduceLeDiff, reduceToNat]
      (try unfold lim); repeat first | ((with_reducible refine And.intro ?_ ?_); (first | omega | exact ⟨by omega, by omega⟩ | rfl)) | intro _
      first | done | trivial | rfl
    | cons x b =>
      have hsl : sumC (fun _ : Int => 1) l = sumC (fun _ : Int => 1) a + (1 + sumC (fun _ : Int => 1) b) := by rw [← hz, sumC_append]; rfl
      have hA : ((mks (fun (k : Int) (_ : Int) => k) (fun _ : Int => 1) k a).map intE).length = a.length := by rw [List.length_map, mks_length]
      have hrow : ∀ d, ((mks (fun (k : Int) (_ : Int) => k) (fun _ : Int => 1) k l).map intE).getD a.length d = intE ((fun (k : Int) (_ : Int) => k) (k + sumC (fun _ : Int => 1) a) x) := fun d => by
        rw [← hA, ← hz, mks_append, List.map_append, mks, List.map_cons, getD_mid]
      have hlen : ((mks (fun (k : Int) (_ : Int) => k) (fun _ : Int => 1) k l).map intE).length = l.length := by rw [List.length_map, mks_length]
      have hsa : sumC (fun _ : Int => 1) (a ++ [x]) = sumC (fun _ : Int => 1) a + 1 := by rw [sumC_append]; rfl
      have hll : l.length = a.length + (b.length + 1) := by rw [← hz]; simp
      generalize (mks (fun (k : Int) (_ : Int) => k) (fun _ : Int => 1) k l).map intE = A at *
      generalize sumC (fun _ : Int => 1) a = m at *
      have hf : decide ((a.length : Int) < l.length) = true := decide_eq_true (by omega)
      simp only [hT, hf, hrow, hlen, intE, Int.toNat_natCast, eq_self, decide_true, Bool.not_true, ↓If_lit, eA, Nat.beq, List.toArray, reduceAdd, reduceLT, reduceLeDiff, reduceToNat]
      (try unfold lim); repeat first | ((with_reducible refine And.intro ?_ ?_); (first | omega | exact ⟨by omega, by omega⟩ | rfl)) | intro _
      refine ⟨⟨a ++ [x], b, by rw [← hz]; simp⟩, Nat.lt_succ_self _, Le.of [] (Nat.le_refl _) ?_ ?_ ?_⟩
      · simp only [eL, eH, eG, leO, Nat.beq, reduceLT]
      · simp only [eL, eH, eG, leO, Nat.beq, reduceLT]; simp [hsa]; try omega
      · simp only [eL, eH, eG, leO, Nat.beq, reduceLT]
theorem markIntZ {P : Program} [Known P] (hP : P = Tryz.prog) (l : List Int) (k : Int) (h1 : 0 ≤ k) (h2 : k + l.length ≤ 1000000000000) : FunM P 172 1 [.os 0, .int .i64 k] [(0, ⟨1, l.map intE, iZ, true⟩)] (.int .i64 (k + l.length)) [(0, ⟨1, (mkI k l.length).map intE, iZ, false⟩)] := by
  have := markIntS hP l k h1 (by rw [sum1]; exact h2)
  rw [sum1, ← mkI_mks] at this
  exact this
theorem heldIntZ {P : Program} [Known P] (hP : P = Tryz.prog) (n : Nat) (k : Int) (h1 : 0 ≤ k) (h2 : k + n ≤ 1000000000000) : Fun P 174 [intsS (mkI k n), .int .i64 k] (.int .i64 (k + n)) := by
  have := heldIntS hP (List.replicate n 0) k h1 (by rw [sum1, List.length_replicate]; exact h2)
  rw [sum1, List.length_replicate] at this
  exact this
theorem np_outE (x : VOut) : npL (outE x) = true := rfl
theorem TY_markOutOutS {P : Program} (hP : P = Tryz.prog) : ((lkT P 31 = 1) ∧ ((elT P 31 = some ((true, (4, 32)))) ∧ (fldT P 201 0 = some ((0, (false, 1)))))) ∧ (((tyT P 3 = some ((false, 1))) ∧ (fldT P 201 1 = some ((1, (false, 1))))) ∧ ((fldT P 201 2 = some ((2, (false, 1)))) ∧ (fldT P 201 3 = some ((3, (false, 1)))))) := by subst hP; refine ⟨⟨?_, ⟨?_, ?_⟩⟩, ⟨⟨?_, ?_⟩, ⟨?_, ?_⟩⟩⟩ <;> kernel_rfl
theorem markOutOutS {P : Program} [Known P] (hP : P = Tryz.prog) (l : List VOut) (k : Int) (h1 : 0 ≤ k) (h2 : k + sumC (fun _ : VOut => 4) l ≤ 1000000000000) : FunM P 79 1 [.os 0, .int .i64 k] [(0, ⟨4, l.map outE, outZ, true⟩)] (.int .i64 (k + sumC (fun _ : VOut => 4) l)) [(0, ⟨4, (mks (fun (k : Int) (_ : VOut) => ((k, k + 1, k + 1 + 1, k + 1 + 1 + 1, ()) : VOut)) (fun _ : VOut => 4) k l).map outE, outZ, false⟩)] := by
  refine FunX.m ?_
  refine fun_ofG (fn := Tryz.f79) (hP ▸ Tryz.func79) (by kernel_rfl) (by kernel_rfl) (by kernel_rfl) (by kernel_rfl) ?_
  have hT := TY_markOutOutS hP
  clear hP
  intro hl
  clear hl
  simp only [Tryz.f79, hT, eA, Nat.beq, List.toArray, reduceAdd, reduceLT, reduceLeDiff, reduceToNat]
  refine wpc_loop (Zr l) (fun z => ⟨[(0, .os 0), (1, .int .i64 (k + sumC (fun _ : VOut => 4) z.a)), (5, .int .i64 z.a.length)], [(0, ⟨4, (mks (fun (k : Int) (_ : VOut) => ((k, k + 1, k + 1 + 1, k + 1 + 1 + 1, ()) : VOut)) (fun _ : VOut => 4) k z.a).map outE ++ z.b.map outE, outZ, true⟩)], 1⟩) (fun z => z.b.length) ⟨[], l, rfl⟩ (Le.of [] (Nat.le_refl _) ?_ ?_ ?_) ?_
  · simp only [eL, eH, eG, leO, Nat.beq, reduceLT]
  · simp only [eL, eH, eG, leO, Nat.beq, reduceLT]; simp [sumC]
  · simp only [eL, eH, eG, leO, Nat.beq, reduceLT]; exact leR_cln _ _ _ (cln_outE l)
  · rintro ⟨a, b, hz⟩
    cases b with
    | nil =>
      obtain rfl : a = l := by simpa using hz
      have hA : ((mks (fun (k : Int) (_ : VOut) => ((k, k + 1, k + 1 + 1, k + 1 + 1 + 1, ()) : VOut)) (fun _ : VOut => 4) k a).map outE).length = a.length := by rw [List.length_map, mks_length]
      have hf : decide ((a.length : Int) < a.length) = false := decide_eq_false (by omega)
      simp only [hT, List.map_nil, List.append_nil, hA, hf, ↓If_lit, eA, Nat.beq, List.toArray, reduceAdd, reduceLT, reduceLeDiff, reduceToNat]
      (try unfold lim); repeat first | ((with_reducible refine And.intro ?_ ?_); (first | omega | exact ⟨by omega, by omega⟩ | rfl)) | intro _
      refine RetG.le (Le.shut 0 _ (by simp only; omega) (by rfl) (np_mks _ np_outE _)) (RetG.fin ?_)
      simp only [eA, Nat.beq, List.toArray, reduceAdd, reduceLT, reduceLeDiff, reduceToNat]
      exact ⟨_, _, ⟨rfl, rfl⟩, ⟨rfl, rfl⟩, ⟨rfl, trivial⟩⟩
    | cons x b =>
      have hsl : sumC (fun _ : VOut => 4) l = sumC (fun _ : VOut => 4) a + (4 + sumC (fun _ : VOut => 4) b) := by rw [← hz, sumC_append]; rfl
      have hA : ((mks (fun (k : Int) (_ : VOut) => ((k, k + 1, k + 1 + 1, k + 1 + 1 + 1, ()) : VOut)) (fun _ : VOut => 4) k a).map outE).length = a.length := by rw [List.length_map, mks_length]
      have hnew : (mks (fun (k : Int) (_ : VOut) => ((k, k + 1, k + 1 + 1, k + 1 + 1 + 1, ()) : VOut)) (fun _ : VOut => 4) k (a ++ [x])).map outE = (mks (fun (k : Int) (_ : VOut) => ((k, k + 1, k + 1 + 1, k + 1 + 1 + 1, ()) : VOut)) (fun _ : VOut => 4) k a).map outE ++ [outE ((fun (k : Int) (_ : VOut) => ((k, k + 1, k + 1 + 1, k + 1 + 1 + 1, ()) : VOut)) (k + sumC (fun _ : VOut => 4) a) x)] := by rw [mks_append, List.map_append]; rfl
      have hsa : sumC (fun _ : VOut => 4) (a ++ [x]) = sumC (fun _ : VOut => 4) a + 4 := by rw [sumC_append]; rfl
      have hca : ∀ r ∈ (mks (fun (k : Int) (_ : VOut) => ((k, k + 1, k + 1 + 1, k + 1 + 1 + 1, ()) : VOut)) (fun _ : VOut => 4) k a).map outE, cln r := cln_outE _
      generalize (mks (fun (k : Int) (_ : VOut) => ((k, k + 1, k + 1 + 1, k + 1 + 1 + 1, ()) : VOut)) (fun _ : VOut => 4) k a).map outE = A at *
      generalize sumC (fun _ : VOut => 4) a = m at *
      have hf : decide ((A.length : Int) < (A.length + (b.length + 1) : Nat)) = true := decide_eq_true (by omega)
      simp only [← hA]
      simp only [hT, List.map_cons, hf, getD_mid, set_mid, List.length_append, List.length_cons, List.length_map, outE, Int.toNat_natCast, ↓If_lit, eA, Nat.beq, List.toArray, reduceAdd, reduceLT, reduceLeDiff, reduceToNat]
      (try unfold lim); repeat first | ((with_reducible refine And.intro ?_ ?_); (first | omega | exact ⟨by omega, by omega⟩ | rfl)) | intro _
      refine ⟨⟨a ++ [x], b, by rw [← hz]; simp⟩, Nat.lt_succ_self _, ?_⟩
      refine Le.of [] (Nat.le_refl _) ?_ ?_ ?_
      · simp only [eL, eH, eG, leO, Nat.beq, reduceLT]
      · simp only [eL, eH, eG, leO, Nat.beq, reduceLT]; simp [hsa, hA]; omega
      · simp only [eL, eH, eG, leO, Nat.beq, reduceLT, hnew, outE, List.append_assoc, List.cons_append, List.nil_append]
        exact leR_mid _ _ _ _ _ (cln_outE b) (by simp only [eL, eH, eG, leO, Nat.beq, reduceLT]) A hca
theorem TY_heldOutOutS {P : Program} (hP : P = Tryz.prog) : ((lkT P 31 = 1) ∧ ((elT P 31 = some ((true, (4, 32)))) ∧ (fldT P 201 0 = some ((0, (false, 1)))))) ∧ (((tyT P 3 = some ((false, 1))) ∧ (fldT P 201 1 = some ((1, (false, 1))))) ∧ ((fldT P 201 2 = some ((2, (false, 1)))) ∧ (fldT P 201 3 = some ((3, (false, 1)))))) := by subst hP; refine ⟨⟨?_, ⟨?_, ?_⟩⟩, ⟨⟨?_, ?_⟩, ⟨?_, ?_⟩⟩⟩ <;> kernel_rfl
theorem heldOutOutS {P : Program} [Known P] (hP : P = Tryz.prog) (l : List VOut) (k : Int) (h1 : 0 ≤ k) (h2 : k + sumC (fun _ : VOut => 4) l ≤ 1000000000000) : Fun P 84 [.sl 4 ((mks (fun (k : Int) (_ : VOut) => ((k, k + 1, k + 1 + 1, k + 1 + 1 + 1, ()) : VOut)) (fun _ : VOut => 4) k l).map outE) outZ, .int .i64 k] (.int .i64 (k + sumC (fun _ : VOut => 4) l)) := by
  refine fun_of (fn := Tryz.f84) (hP ▸ Tryz.func84) (by kernel_rfl) (by kernel_rfl) (by kernel_rfl) (by kernel_rfl) ?_
  have hT := TY_heldOutOutS hP
  clear hP
  intro hl
  clear hl
  simp only [Tryz.f84, hT, eA, Nat.beq, List.toArray, reduceAdd, reduceLT, reduceLeDiff, reduceToNat]
  refine wpc_loop (Zr l) (fun z => ⟨[(0, .sl 4 ((mks (fun (k : Int) (_ : VOut) => ((k, k + 1, k + 1 + 1, k + 1 + 1 + 1, ()) : VOut)) (fun _ : VOut => 4) k l).map outE) outZ), (1, .int .i64 (k + sumC (fun _ : VOut => 4) z.a)), (5, .int .i64 z.a.length)], [], 0⟩) (fun z => z.b.length) ⟨[], l, rfl⟩ (Le.of [] (Nat.le_refl _) ?_ ?_ ?_) ?_
  · simp only [eL, eH, eG, leO, Nat.beq, reduceLT]
  · simp only [eL, eH, eG, leO, Nat.beq, reduceLT]; simp [sumC]
  · simp only [eL, eH, eG, leO, Nat.beq, reduceLT]
  · rintro ⟨a, b, hz⟩
    cases b with
    | nil =>
      obtain rfl : a = l := by simpa using hz
      have hf : decide ((a.length : Int) < a.length) = false := decide_eq_false (by omega)
      simp only [hT, List.length_map, mks_length, hf, ↓If_lit, eA, Nat.beq, List.toArray, reduceAdd, reduceLT, reduceLeDiff, reduceToNat]
      (try unfold lim); repeat first | ((with_reducible refine And.intro ?_ ?_); (first | omega | exact ⟨by omega, by omega⟩ | rfl)) | intro _
      first | done | trivial | rfl
    | cons x b =>
      have hsl : sumC (fun _ : VOut => 4) l = sumC (fun _ : VOut => 4) a + (4 + sumC (fun _ : VOut => 4) b) := by rw [← hz, sumC_append]; rfl
      have hA : ((mks (fun (k : Int) (_ : VOut) => ((k, k + 1, k + 1 + 1, k + 1 + 1 + 1, ()) : VOut)) (fun _ : VOut => 4) k a).map outE).length = a.length := by rw [List.length_map, mks_length]
      have hrow : ∀ d, ((mks (fun (k : Int) (_ : VOut) => ((k, k + 1, k + 1 + 1, k + 1 + 1 + 1, ()) : VOut)) (fun _ : VOut => 4) k l).map outE).getD a.length d = outE ((fun (k : Int) (_ : VOut) => ((k, k + 1, k + 1 + 1, k + 1 + 1 + 1, ()) : VOut)) (k + sumC (fun _ : VOut => 4) a) x) := fun d => by
        rw [← hA, ← hz, mks_append, List.map_append, mks, List.map_cons, getD_mid]
      have hlen : ((mks (fun (k : Int) (_ : VOut) => ((k, k + 1, k + 1 + 1, k + 1 + 1 + 1, ()) : VOut)) (fun _ : VOut => 4) k l).map outE).length = l.length := by rw [List.length_map, mks_length]
      have hsa : sumC (fun _ : VOut => 4) (a ++ [x]) = sumC (fun _ : VOut => 4) a + 4 := by rw [sumC_append]; rfl
      have hll : l.length = a.length + (b.length + 1) := by rw [← hz]; simp
      generalize (mks (fun (k : Int) (_ : VOut) => ((k, k + 1, k + 1 + 1, k + 1 + 1 + 1, ()) : VOut)) (fun _ : VOut => 4) k l).map outE = A at *
      generalize sumC (fun _ : VOut => 4) a = m at *
      have hf : decide ((a.length : Int) < l.length) = true := decide_eq_true (by omega)
      simp only [hT, hf, hrow, hlen, outE, Int.toNat_natCast, eq_self, decide_true, Bool.not_true, ↓If_lit, eA, Nat.beq, List.toArray, reduceAdd, reduceLT, reduceLeDiff, reduceToNat]
      (try unfold lim); repeat first | ((with_reducible refine And.intro ?_ ?_); (first | omega | exact ⟨by omega, by omega⟩ | rfl)) | intro _
      refine ⟨⟨a ++ [x], b, by rw [← hz]; simp⟩, Nat.lt_succ_self _, Le.of [] (Nat.le_refl _) ?_ ?_ ?_⟩
      · simp only [eL, eH, eG, leO, Nat.beq, reduceLT]
      · simp only [eL, eH, eG, leO, Nat.beq, reduceLT]; simp [hsa]; try omega
      · simp only [eL, eH, eG, leO, Nat.beq, reduceLT]
theorem np_innE (x : VInn) : npL (innE x) = true := rfl
theorem TY_markInInS {P : Program} (hP : P = Tryz.prog) : ((lkT P 32 = 1) ∧ ((elT P 32 = some ((true, (3, 24)))) ∧ (fldT P 204 0 = some ((0, (false, 1)))))) ∧ ((tyT P 3 = some ((false, 1))) ∧ ((fldT P 204 1 = some ((1, (false, 1)))) ∧ (fldT P 204 2 = some ((2, (false, 1)))))) := by subst hP; refine ⟨⟨?_, ⟨?_, ?_⟩⟩, ⟨?_, ⟨?_, ?_⟩⟩⟩ <;> kernel_rfl
theorem markInInS {P : Program} [Known P] (hP : P = Tryz.prog) (l : List VInn) (k : Int) (h1 : 0 ≤ k) (h2 : k + sumC (fun _ : VInn => 3) l ≤ 1000000000000) : FunM P 80 1 [.os 0, .int .i64 k] [(0, ⟨3, l.map innE, innZ, true⟩)] (.int .i64 (k + sumC (fun _ : VInn => 3) l)) [(0, ⟨3, (mks (fun (k : Int) (_ : VInn) => ((k, k + 1, k + 1 + 1, ()) : VInn)) (fun _ : VInn => 3) k l).map innE, innZ, false⟩)] := by
  refine FunX.m ?_
  refine fun_ofG (fn := Tryz.f80) (hP ▸ Tryz.func80) (by kernel_rfl) (by kernel_rfl) (by kernel_rfl) (by kernel_rfl) ?_
  have hT := TY_markInInS hP
  clear hP
  intro hl
  clear hl
  simp only [Tryz.f80, hT, eA, Nat.beq, List.toArray, reduceAdd, reduceLT, reduceLeDiff, reduceToNat]
  refine wpc_loop (Zr l) (fun z => ⟨[(0, .os 0), (1, .int .i64 (k + sumC (fun _ : VInn => 3) z.a)), (5, .int .i64 z.a.length)], [(0, ⟨3, (mks (fun (k : Int) (_ : VInn) => ((k, k + 1, k + 1 + 1, ()) : VInn)) (fun _ : VInn => 3) k z.a).map innE ++ z.b.map innE, innZ, true⟩)], 1⟩) (fun z => z.b.length) ⟨[], l, rfl⟩ (Le.of [] (Nat.le_refl _) ?_ ?_ ?_) ?_
  · simp only [eL, eH, eG, leO, Nat.beq, reduceLT]
  · simp only [eL, eH, eG, leO, Nat.beq, reduceLT]; simp [sumC]
  · simp only [eL, eH, eG, leO, Nat.beq, reduceLT]; exact leR_cln _ _ _ (cln_innE l)
  · rintro ⟨a, b, hz⟩
    cases b with
    | nil =>
      obtain rfl : a = l := by simpa using hz
      have hA : ((mks (fun (k : Int) (_ : VInn) => ((k, k + 1, k + 1 + 1, ()) : VInn)) (fun _ : VInn => 3) k a).map innE).length = a.length := by rw [List.length_map, mks_length]
      have hf : decide ((a.length : Int) < a.length) = false := decide_eq_false (by omega)
      simp only [hT, List.map_nil, List.append_nil, hA, hf, ↓If_lit, eA, Nat.beq, List.toArray, reduceAdd, reduceLT, reduceLeDiff, reduceToNat]
      (try unfold lim); repeat first | ((with_reducible refine And.intro ?_ ?_); (first | omega | exact ⟨by omega, by omega⟩ | rfl)) | intro _
      refine RetG.le (Le.shut 0 _ (by simp only; omega) (by rfl) (np_mks _ np_innE _)) (RetG.fin ?_)
      simp only [eA, Nat.beq, List.toArray, reduceAdd, reduceLT, reduceLeDiff, reduceToNat]
      exact ⟨_, _, ⟨rfl, rfl⟩, ⟨rfl, rfl⟩, ⟨rfl, trivial⟩⟩
    | cons x b =>
      have hsl : sumC (fun _ : VInn => 3) l = sumC (fun _ : VInn => 3) a + (3 + sumC (fun _ : VInn => 3) b) := by rw [← hz, sumC_append]; rfl
      have hA : ((mks (fun (k : Int) (_ : VInn) => ((k, k + 1, k + 1 + 1, ()) : VInn)) (fun _ : VInn => 3) k a).map innE).length = a.length := by rw [List.length_map, mks_length]
      have hnew : (mks (fun (k : Int) (_ : VInn) => ((k, k + 1, k + 1 + 1, ()) : VInn)) (fun _ : VInn => 3) k (a ++ [x])).map innE = (mks (fun (k : Int) (_ : VInn) => ((k, k + 1, k + 1 + 1, ()) : VInn)) (fun _ : VInn => 3) k a).map innE ++ [innE ((fun (k : Int) (_ : VInn) => ((k, k + 1, k + 1 + 1, ()) : VInn)) (k + sumC (fun _ : VInn => 3) a) x)] := by rw [mks_append, List.map_append]; rfl
      have hsa : sumC (fun _ : VInn => 3) (a ++ [x]) = sumC (fun _ : VInn => 3) a + 3 := by rw [sumC_append]; rfl
      have hca : ∀ r ∈ (mks (fun (k : Int) (_ : VInn) => ((k, k + 1, k + 1 + 1, ()) : VInn)) (fun _ : VInn => 3) k a).map innE, cln r := cln_innE _
      generalize (mks (fun (k : Int) (_ : VInn) => ((k, k + 1, k + 1 + 1, ()) : VInn)) (fun _ : VInn => 3) k a).map innE = A at *
      generalize sumC (fun _ : VInn => 3) a = m at *
      have hf : decide ((A.length : Int) < (A.length + (b.length + 1) : Nat)) = true := decide_eq_true (by omega)
      simp only [← hA]
      simp only [hT, List.map_cons, hf, getD_mid, set_mid, List.length_append, List.length_cons, List.length_map, innE, Int.toNat_natCast, ↓If_lit, eA, Nat.beq, List.toArray, reduceAdd, reduceLT, reduceLeDiff, reduceToNat]
      (try unfold lim); repeat first | ((with_reducible refine And.intro ?_ ?_); (first | omega | exact ⟨by omega, by omega⟩ | rfl)) | intro _
      refine ⟨⟨a ++ [x], b, by rw [← hz]; simp⟩, Nat.lt_succ_self _, ?_⟩
      refine Le.of [] (Nat.le_refl _) ?_ ?_ ?_
      · simp only [eL, eH, eG, leO, Nat.beq, reduceLT]
      · simp only [eL, eH, eG, leO, Nat.beq, reduceLT]; simp [hsa, hA]; omega
      · simp only [eL, eH, eG, leO, Nat.beq, reduceLT, hnew, innE, List.append_assoc, List.cons_append, List.nil_append]
        exact leR_mid _ _ _ _ _ (cln_innE b) (by simp only [eL, eH, eG, leO, Nat.beq, reduceLT]) A hca
theorem TY_heldInInS {P : Program} (hP : P = Tryz.prog) : ((lkT P 32 = 1) ∧ ((elT P 32 = some ((true, (3, 24)))) ∧ (fldT P 204 0 = some ((0, (false, 1)))))) ∧ ((tyT P 3 = some ((false, 1))) ∧ ((fldT P 204 1 = some ((1, (false, 1)))) ∧ (fldT P 204 2 = some ((2, (false, 1)))))) := by subst hP; refine ⟨⟨?_, ⟨?_, ?_⟩⟩, ⟨?_, ⟨?_, ?_⟩⟩⟩ <;> kernel_rfl
theorem heldInInS {P : Program} [Known P] (hP : P = Tryz.prog) (l : List VInn) (k : Int) (h1 : 0 ≤ k) (h2 : k + sumC (fun _ : VInn => 3) l ≤ 1000000000000) : Fun P 85 [.sl 3 ((mks (fun (k : Int) (_ : VInn) => ((k, k + 1, k + 1 + 1, ()) : VInn)) (fun _ : VInn => 3) k l).map innE) innZ, .int .i64 k] (.int .i64 (k + sumC (fun _ : VInn => 3) l)) := by
  refine fun_of (fn := Tryz.f85) (hP ▸ Tryz.func85) (by kernel_rfl) (by kernel_rfl) (by kernel_rfl) (by kernel_rfl) ?_
  have hT := TY_heldInInS hP
  clear hP
  intro hl
  clear hl
  simp only [Tryz.f85, hT, eA, Nat.beq, List.toArray, reduceAdd, reduceLT, reduceLeDiff, reduceToNat]
  refine wpc_loop (Zr l) (fun z => ⟨[(0, .sl 3 ((mks (fun (k : Int) (_ : VInn) => ((k, k + 1, k + 1 + 1, ()) : VInn)) (fun _ : VInn => 3) k l).map innE) innZ), (1, .int .i64 (k + sumC (fun _ : VInn => 3) z.a)), (5, .int .i64 z.a.length)], [], 0⟩) (fun z => z.b.length) ⟨[], l, rfl⟩ (Le.of [] (Nat.le_refl _) ?_ ?_ ?_) ?_
  · simp only [eL, eH, eG, leO, Nat.beq, reduceLT]
  · simp only [eL, eH, eG, leO, Nat.beq, reduceLT]; simp [sumC]
  · simp only [eL, eH, eG, leO, Nat.beq, reduceLT]
  · rintro ⟨a, b, hz⟩
    cases b with
    | nil =>
      obtain rfl : a = l := by simpa using hz
      have hf : decide ((a.length : Int) < a.length) = false := decide_eq_false (by omega)
      simp only [hT, List.length_map, mks_length, hf, ↓If_lit, eA, Nat.beq, List.toArray, reduceAdd, reduceLT, reduceLeDiff, reduceToNat]
      (try unfold lim); repeat first | ((with_reducible refine And.intro ?_ ?_); (first | omega | exact ⟨by omega, by omega⟩ | rfl)) | intro _
      first | done | trivial | rfl
    | cons x b =>
      have hsl : sumC (fun _ : VInn => 3) l = sumC (fun _ : VInn => 3) a + (3 + sumC (fun _ : VInn => 3) b) := by rw [← hz, sumC_append]; rfl
      have hA : ((mks (fun (k : Int) (_ : VInn) => ((k, k + 1, k + 1 + 1, ()) : VInn)) (fun _ : VInn => 3) k a).map innE).length = a.length := by rw [List.length_map, mks_length]
      have hrow : ∀ d, ((mks (fun (k : Int) (_ : VInn) => ((k, k + 1, k + 1 + 1, ()) : VInn)) (fun _ : VInn => 3) k l).map innE).getD a.length d = innE ((fun (k : Int) (_ : VInn) => ((k, k + 1, k + 1 + 1, ()) : VInn)) (k + sumC (fun _ : VInn => 3) a) x) := fun d => by
        rw [← hA, ← hz, mks_append, List.map_append, mks, List.map_cons, getD_mid]
      have hlen : ((mks (fun (k : Int) (_ : VInn) => ((k, k + 1, k + 1 + 1, ()) : VInn)) (fun _ : VInn => 3) k l).map innE).length = l.length := by rw [List.length_map, mks_length]
      have hsa : sumC (fun _ : VInn => 3) (a ++ [x]) = sumC (fun _ : VInn => 3) a + 3 := by rw [sumC_append]; rfl
      have hll : l.length = a.length + (b.length + 1) := by rw [← hz]; simp
      generalize (mks (fun (k : Int) (_ : VInn) => ((k, k + 1, k + 1 + 1, ()) : VInn)) (fun _ : VInn => 3) k l).map innE = A at *
      generalize sumC (fun _ : VInn => 3) a = m at *
      have hf : decide ((a.length : Int) < l.length) = true := decide_eq_true (by omega)
      simp only [hT, hf, hrow, hlen, innE, Int.toNat_natCast, eq_self, decide_true, Bool.not_true, ↓If_lit, eA, Nat.beq, List.toArray, reduceAdd, reduceLT, reduceLeDiff, reduceToNat]
      (try unfold lim); repeat first | ((with_reducible refine And.intro ?_ ?_); (first | omega | exact ⟨by omega, by omega⟩ | rfl)) | intro _
      refine ⟨⟨a ++ [x], b, by rw [← hz]; simp⟩, Nat.lt_succ_self _, Le.of [] (Nat.le_refl _) ?_ ?_ ?_⟩
      · simp only [eL, eH, eG, leO, Nat.beq, reduceLT]
      · simp only [eL, eH, eG, leO, Nat.beq, reduceLT]; simp [hsa]; try omega
      · simp only [eL, eH, eG, leO, Nat.beq, reduceLT]
abbrev fM : Int → List UInt8 → List UInt8 := fun (k : Int) (x : List UInt8) => mkB k x.length
abbrev cM : List UInt8 → Nat := fun x : List UInt8 => x.length
theorem np_msgO (x : (List UInt8)) : npL (msgO x) = true := rfl
theorem TY_markByteSS {P : Program} (hP : P = Tryz.prog) : (lkT P 79 = 1) ∧ ((elT P 79 = some ((false, (1, 24)))) ∧ (tyT P 149 = some ((false, 1)))) := by subst hP; refine ⟨?_, ⟨?_, ?_⟩⟩ <;> kernel_rfl
theorem markByteSS {P : Program} [Known P] (hP : P = Tryz.prog) (l : List (List UInt8)) (k : Int) (h1 : 0 ≤ k) (h2 : k + sumC (fun x : List UInt8 => x.length) l ≤ 1000000000000) : FunM P 139 1 [.os 0, .int .i64 k] [(0, ⟨1, l.map msgO, msgZ, true⟩)] (.int .i64 (k + sumC (fun x : List UInt8 => x.length) l)) [(0, ⟨1, (mks (fun (k : Int) (x : List UInt8) => mkB k x.length) (fun x : List UInt8 => x.length) k l).map msgO, msgZ, false⟩)] := by
  refine FunX.m ?_
  refine fun_ofG (fn := Tryz.f139) (hP ▸ Tryz.func139) (by kernel_rfl) (by kernel_rfl) (by kernel_rfl) (by kernel_rfl) ?_
  have hT := TY_markByteSS hP
  have mk0 := fun l k h1 h2 => markByteZ hP l k h1 h2
  clear hP
  intro hl
  clear hl
  simp only [Tryz.f139, hT, eA, Nat.beq, List.toArray, reduceAdd, reduceLT, reduceLeDiff, reduceToNat]
  refine wpc_loop (Zr l) (fun z => ⟨[(0, .os 0), (1, .int .i64 (k + sumC (fun x : List UInt8 => x.length) z.a)), (5, .int .i64 z.a.length)], [(0, ⟨1, (mks (fun (k : Int) (x : List UInt8) => mkB k x.length) (fun x : List UInt8 => x.length) k z.a).map msgO ++ z.b.map msgO, msgZ, true⟩)], 1⟩) (fun z => z.b.length) ⟨[], l, rfl⟩ (Le.of [] (Nat.le_refl _) ?_ ?_ ?_) ?_
  · simp only [eL, eH, eG, leO, Nat.beq, reduceLT]
  · simp only [eL, eH, eG, leO, Nat.beq, reduceLT]; simp [sumC]
  · simp only [eL, eH, eG, leO, Nat.beq, reduceLT]; exact leR_cln _ _ _ (cln_msgO l)
  · rintro ⟨a, b, hz⟩
    cases b with
    | nil =>
      obtain rfl : a = l := by simpa using hz
      have hA : ((mks (fun (k : Int) (x : List UInt8) => mkB k x.length) (fun x : List UInt8 => x.length) k a).map msgO).length = a.length := by rw [List.length_map, mks_length]
      have hf : decide ((a.length : Int) < a.length) = false := decide_eq_false (by omega)
      simp only [hT, List.map_nil, List.append_nil, hA, hf, ↓If_lit, eA, Nat.beq, List.toArray, reduceAdd, reduceLT, reduceLeDiff, reduceToNat]
      (try unfold lim); repeat first | ((with_reducible refine And.intro ?_ ?_); (first | omega | exact ⟨by omega, by omega⟩ | rfl)) | intro _
      refine RetG.le (Le.shut 0 _ (by simp only; omega) (by rfl) (np_mks _ np_msgO _)) (RetG.fin ?_)
      simp only [eA, Nat.beq, List.toArray, reduceAdd, reduceLT, reduceLeDiff, reduceToNat]
      exact ⟨_, _, ⟨rfl, rfl⟩, ⟨rfl, rfl⟩, ⟨rfl, trivial⟩⟩
    | cons x b =>
      have hsl : sumC (fun x : List UInt8 => x.length) l = sumC (fun x : List UInt8 => x.length) a + (x.length + sumC (fun x : List UInt8 => x.length) b) := by rw [← hz, sumC_append]; rfl
      have hA : ((mks (fun (k : Int) (x : List UInt8) => mkB k x.length) (fun x : List UInt8 => x.length) k a).map msgO).length = a.length := by rw [List.length_map, mks_length]
      have hnew : (mks (fun (k : Int) (x : List UInt8) => mkB k x.length) (fun x : List UInt8 => x.length) k (a ++ [x])).map msgO = (mks (fun (k : Int) (x : List UInt8) => mkB k x.length) (fun x : List UInt8 => x.length) k a).map msgO ++ [msgO ((fun (k : Int) (x : List UInt8) => mkB k x.length) (k + sumC (fun x : List UInt8 => x.length) a) x)] := by rw [mks_append, List.map_append]; rfl
      have hsa : sumC (fun x : List UInt8 => x.length) (a ++ [x]) = sumC (fun x : List UInt8 => x.length) a + x.length := by rw [sumC_append]; rfl
      have hca : ∀ r ∈ (mks (fun (k : Int) (x : List UInt8) => mkB k x.length) (fun x : List UInt8 => x.length) k a).map msgO, cln r := cln_msgO _
      generalize (mks (fun (k : Int) (x : List UInt8) => mkB k x.length) (fun x : List UInt8 => x.length) k a).map msgO = A at *
      generalize sumC (fun x : List UInt8 => x.length) a = m at *
      have hf : decide ((A.length : Int) < (A.length + (b.length + 1) : Nat)) = true := decide_eq_true (by omega)
      simp only [← hA]
      simp only [hT, List.map_cons, hf, getD_mid, set_mid, List.length_append, List.length_cons, List.length_map, msgO, Int.toNat_natCast, ↓If_lit, eA, Nat.beq, List.toArray, reduceAdd, reduceLT, reduceLeDiff, reduceToNat]
      (try unfold lim); repeat first | ((with_reducible refine And.intro ?_ ?_); (first | omega | exact ⟨by omega, by omega⟩ | rfl)) | intro _
      refine FunM.lend (mk0 x (k + m) (by omega) (by omega)) ([(0, some 1)]) 0 (by simp only [eD, eM, Nat.beq, reduceLT, reduceAdd, reduceSub, AV.nb]) (by simp only [eD, eM, Nat.beq, reduceLT, reduceAdd, reduceSub, AV.nb]) (by simp only [eD, eM, Nat.beq, reduceLT, reduceAdd, reduceSub, AV.nb]) (by simp only [eD, eM, Nat.beq, reduceLT, reduceAdd, reduceSub, AV.nb]) (by simp only [eD, eM, Nat.beq, reduceLT, reduceAdd, reduceSub, AV.nb]) (by simp only [eD, eM, Nat.beq, reduceLT, reduceAdd, reduceSub, AV.nb]) rfl ?_; simp only [hT, nneg, decide_true, decide_false, ↓If_lit, Int.reduceLT, Int.reduceLE, eD, eM, Nat.beq, reduceLT, reduceAdd, reduceSub, AV.nb, eA, Nat.beq, List.toArray, reduceAdd, reduceLT, reduceLeDiff, reduceToNat]
      try simp only [hT, getD_mid, set_mid, List.length_append, List.length_cons, List.length_map, ↓If_lit, eA, Nat.beq, List.toArray, reduceAdd, reduceLT, reduceLeDiff, reduceToNat]
      (try unfold lim); repeat first | ((with_reducible refine And.intro ?_ ?_); (first | omega | exact ⟨by omega, by omega⟩ | rfl)) | intro _
      refine ⟨⟨a ++ [x], b, by rw [← hz]; simp⟩, Nat.lt_succ_self _, ?_⟩
      refine Le.trans (Le.abs 0 A.length _ (by simp only; omega) (by rfl) rfl (by simp)) ?_
      simp only [absRow, getD_mid, set_mid, eA, Nat.beq, List.toArray, reduceAdd, reduceLT, reduceLeDiff, reduceToNat]
      refine Le.of [] (Nat.le_refl _) ?_ ?_ ?_
      · simp only [eL, eH, eG, leO, Nat.beq, reduceLT]
      · simp only [eL, eH, eG, leO, Nat.beq, reduceLT]; simp [hsa, hA]; omega
      · simp only [eL, eH, eG, leO, Nat.beq, reduceLT, hnew, msgO, List.append_assoc, List.cons_append, List.nil_append]
        exact leR_mid _ _ _ _ _ (cln_msgO b) (by simp only [eL, eH, eG, leO, Nat.beq, reduceLT]) A hca
theorem TY_heldByteSS {P : Program} (hP : P = Tryz.prog) : (lkT P 79 = 1) ∧ ((elT P 79 = some ((false, (1, 24)))) ∧ (tyT P 149 = some ((false, 1)))) := by subst hP; refine ⟨?_, ⟨?_, ?_⟩⟩ <;> kernel_rfl
theorem heldByteSS {P : Program} [Known P] (hP : P = Tryz.prog) (l : List (List UInt8)) (k : Int) (h1 : 0 ≤ k) (h2 : k + sumC (fun x : List UInt8 => x.length) l ≤ 1000000000000) : Fun P 143 [.sl 1 ((mks (fun (k : Int) (x : List UInt8) => mkB k x.length) (fun x : List UInt8 => x.length) k l).map msgS) msgZ, .int .i64 k] (.int .i64 (k + sumC (fun x : List UInt8 => x.length) l)) := by
  refine fun_of (fn := Tryz.f143) (hP ▸ Tryz.func143) (by kernel_rfl) (by kernel_rfl) (by kernel_rfl) (by kernel_rfl) ?_
  have hT := TY_heldByteSS hP
  have mk0 := fun l k h1 h2 => heldByteZ hP l k h1 h2
  clear hP
  intro hl
  clear hl
  simp only [Tryz.f143, hT, eA, Nat.beq, List.toArray, reduceAdd, reduceLT, reduceLeDiff, reduceToNat]
  refine wpc_loop (Zr l) (fun z => ⟨[(0, .sl 1 ((mks (fun (k : Int) (x : List UInt8) => mkB k x.length) (fun x : List UInt8 => x.length) k l).map msgS) msgZ), (1, .int .i64 (k + sumC (fun x : List UInt8 => x.length) z.a)), (5, .int .i64 z.a.length)], [], 0⟩) (fun z => z.b.length) ⟨[], l, rfl⟩ (Le.of [] (Nat.le_refl _) ?_ ?_ ?_) ?_
  · simp only [eL, eH, eG, leO, Nat.beq, reduceLT]
  · simp only [eL, eH, eG, leO, Nat.beq, reduceLT]; simp [sumC]
  · simp only [eL, eH, eG, leO, Nat.beq, reduceLT]
  · rintro ⟨a, b, hz⟩
    cases b with
    | nil =>
      obtain rfl : a = l := by simpa using hz
      have hf : decide ((a.length : Int) < a.length) = false := decide_eq_false (by omega)
      simp only [hT, List.length_map, mks_length, hf, ↓If_lit, eA, Nat.beq, List.toArray, reduceAdd, reduceLT, reduceLeDiff, reduceToNat]
      (try unfold lim); repeat first | ((with_reducible refine And.intro ?_ ?_); (first | omega | exact ⟨by omega, by omega⟩ | rfl)) | intro _
      first | done | trivial | rfl
    | cons x b =>
      have hsl : sumC (fun x : List UInt8 => x.length) l = sumC (fun x : List UInt8 => x.length) a + (x.length + sumC (fun x : List UInt8 => x.length) b) := by rw [← hz, sumC_append]; rfl
      have hA : ((mks (fun (k : Int) (x : List UInt8) => mkB k x.length) (fun x : List UInt8 => x.length) k a).map msgS).length = a.length := by rw [List.length_map, mks_length]
      have hrow : ∀ d, ((mks (fun (k : Int) (x : List UInt8) => mkB k x.length) (fun x : List UInt8 => x.length) k l).map msgS).getD a.length d = msgS ((fun (k : Int) (x : List UInt8) => mkB k x.length) (k + sumC (fun x : List UInt8 => x.length) a) x) := fun d => by
        rw [← hA, ← hz, mks_append, List.map_append, mks, List.map_cons, getD_mid]
      have hlen : ((mks (fun (k : Int) (x : List UInt8) => mkB k x.length) (fun x : List UInt8 => x.length) k l).map msgS).length = l.length := by rw [List.length_map, mks_length]
      have hsa : sumC (fun x : List UInt8 => x.length) (a ++ [x]) = sumC (fun x : List UInt8 => x.length) a + x.length := by rw [sumC_append]; rfl
      have hll : l.length = a.length + (b.length + 1) := by rw [← hz]; simp
      generalize (mks (fun (k : Int) (x : List UInt8) => mkB k x.length) (fun x : List UInt8 => x.length) k l).map msgS = A at *
      generalize sumC (fun x : List UInt8 => x.length) a = m at *
      have h3 : decide (k + m + x.length < 0) = false := decide_eq_false (by omega)
      have hf : decide ((a.length : Int) < l.length) = true := decide_eq_true (by omega)
      simp only [hT, hf, hrow, hlen, msgS, Int.toNat_natCast, eq_self, decide_true, Bool.not_true, ↓If_lit, eA, Nat.beq, List.toArray, reduceAdd, reduceLT, reduceLeDiff, reduceToNat]
      (try unfold lim); repeat first | ((with_reducible refine And.intro ?_ ?_); (first | omega | exact ⟨by omega, by omega⟩ | rfl)) | intro _
      refine Fun.plain (mk0 x.length (k + m) (by omega) (by omega)) rfl rfl rfl rfl ?_
      simp only [hT, h3, hrow, hlen, msgS, Int.toNat_natCast, eq_self, decide_true, Bool.not_true, ↓If_lit, eA, Nat.beq, List.toArray, reduceAdd, reduceLT, reduceLeDiff, reduceToNat]
      (try unfold lim); repeat first | ((with_reducible refine And.intro ?_ ?_); (first | omega | exact ⟨by omega, by omega⟩ | rfl)) | intro _
      refine ⟨⟨a ++ [x], b, by rw [← hz]; simp⟩, Nat.lt_succ_self _, Le.of [] (Nat.le_refl _) ?_ ?_ ?_⟩
      · simp only [eL, eH, eG, leO, Nat.beq, reduceLT]
      · simp only [eL, eH, eG, leO, Nat.beq, reduceLT]; simp [hsa]; try omega
      · simp only [eL, eH, eG, leO, Nat.beq, reduceLT]
def mkCel (k : Int) (x : VCel) : VCel := ((k, mkI (k + 1) x.1.2.1.length, mkI (k + 1 + x.1.2.1.length) x.1.2.2.1.length, k + 1 + x.1.2.1.length + x.1.2.2.1.length, ()), mkB (k + 1 + x.1.2.1.length + x.1.2.2.1.length + 1) x.2.1.length, ())
theorem np_celO (x : VCel) : npL (celO x) = true := rfl
theorem TY_markCelCellS {P : Program} (hP : P = Tryz.prog) : (((lkT P 29 = 1) ∧ (elT P 29 = some ((true, (5, 88))))) ∧ ((fldT P 151 0 = some ((0, (true, 4)))) ∧ ((fldT P 148 0 = some ((0, (false, 1)))) ∧ (tyT P 3 = some ((false, 1)))))) ∧ (((fldT P 148 1 = some ((1, (false, 1)))) ∧ ((tyT P 33 = some ((false, 1))) ∧ (fldT P 148 2 = some ((2, (false, 1)))))) ∧ ((fldT P 148 3 = some ((3, (false, 1)))) ∧ ((fldT P 151 1 = some ((4, (false, 1)))) ∧ (tyT P 149 = some ((false, 1)))))) := by subst hP; refine ⟨⟨⟨?_, ?_⟩, ⟨?_, ⟨?_, ?_⟩⟩⟩, ⟨⟨?_, ⟨?_, ?_⟩⟩, ⟨?_, ⟨?_, ?_⟩⟩⟩⟩ <;> kernel_rfl
theorem markCelCellS {P : Program} [Known P] (hP : P = Tryz.prog) (l : List VCel) (k : Int) (h1 : 0 ≤ k) (h2 : k + sumC (fun x : VCel => 2 + x.1.2.1.length + x.1.2.2.1.length + x.2.1.length) l ≤ 1000000000000) : FunM P 77 1 [.os 0, .int .i64 k] [(0, ⟨5, l.map celO, celZ, true⟩)] (.int .i64 (k + sumC (fun x : VCel => 2 + x.1.2.1.length + x.1.2.2.1.length + x.2.1.length) l)) [(0, ⟨5, (mks (mkCel) (fun x : VCel => 2 + x.1.2.1.length + x.1.2.2.1.length + x.2.1.length) k l).map celO, celZ, false⟩)] := by
  refine FunX.m ?_
  refine fun_ofG (fn := Tryz.f77) (hP ▸ Tryz.func77) (by kernel_rfl) (by kernel_rfl) (by kernel_rfl) (by kernel_rfl) ?_
  have hT := TY_markCelCellS hP
  have mk0 := fun l k h1 h2 => markIntZ hP l k h1 h2
  have mk1 := fun l k h1 h2 => markByteZ hP l k h1 h2
  clear hP
  intro hl
  clear hl
  simp only [Tryz.f77, hT, eA, Nat.beq, List.toArray, reduceAdd, reduceLT, reduceLeDiff, reduceToNat]
  refine wpc_loop (Zr l) (fun z => ⟨[(0, .os 0), (1, .int .i64 (k + sumC (fun x : VCel => 2 + x.1.2.1.length + x.1.2.2.1.length + x.2.1.length) z.a)), (5, .int .i64 z.a.length)], [(0, ⟨5, (mks (mkCel) (fun x : VCel => 2 + x.1.2.1.length + x.1.2.2.1.length + x.2.1.length) k z.a).map celO ++ z.b.map celO, celZ, true⟩)], 1⟩) (fun z => z.b.length) ⟨[], l, rfl⟩ (Le.of [] (Nat.le_refl _) ?_ ?_ ?_) ?_
  · simp only [eL, eH, eG, leO, Nat.beq, reduceLT]
  · simp only [eL, eH, eG, leO, Nat.beq, reduceLT]; simp [sumC]
  · simp only [eL, eH, eG, leO, Nat.beq, reduceLT]; exact leR_cln _ _ _ (cln_celO l)
  · rintro ⟨a, b, hz⟩
    cases b with
    | nil =>
      obtain rfl : a = l := by simpa using hz
      have hA : ((mks (mkCel) (fun x : VCel => 2 + x.1.2.1.length + x.1.2.2.1.length + x.2.1.length) k a).map celO).length = a.length := by rw [List.length_map, mks_length]
      have hf : decide ((a.length : Int) < a.length) = false := decide_eq_false (by omega)
      simp only [hT, List.map_nil, List.append_nil, hA, hf, ↓If_lit, eA, Nat.beq, List.toArray, reduceAdd, reduceLT, reduceLeDiff, reduceToNat]
      (try unfold lim); repeat first | ((with_reducible refine And.intro ?_ ?_); (first | omega | exact ⟨by omega, by omega⟩ | rfl)) | intro _
      refine RetG.le (Le.shut 0 _ (by simp only; omega) (by rfl) (np_mks _ np_celO _)) (RetG.fin ?_)
      simp only [eA, Nat.beq, List.toArray, reduceAdd, reduceLT, reduceLeDiff, reduceToNat]
      exact ⟨_, _, ⟨rfl, rfl⟩, ⟨rfl, rfl⟩, ⟨rfl, trivial⟩⟩
    | cons x b =>
      have hsl : sumC (fun x : VCel => 2 + x.1.2.1.length + x.1.2.2.1.length + x.2.1.length) l = sumC (fun x : VCel => 2 + x.1.2.1.length + x.1.2.2.1.length + x.2.1.length) a + ((2 + x.1.2.1.length + x.1.2.2.1.length + x.2.1.length) + sumC (fun x : VCel => 2 + x.1.2.1.length + x.1.2.2.1.length + x.2.1.length) b) := by rw [← hz, sumC_append]; rfl
      have hA : ((mks (mkCel) (fun x : VCel => 2 + x.1.2.1.length + x.1.2.2.1.length + x.2.1.length) k a).map celO).length = a.length := by rw [List.length_map, mks_length]
      have hnew : (mks (mkCel) (fun x : VCel => 2 + x.1.2.1.length + x.1.2.2.1.length + x.2.1.length) k (a ++ [x])).map celO = (mks (mkCel) (fun x : VCel => 2 + x.1.2.1.length + x.1.2.2.1.length + x.2.1.length) k a).map celO ++ [celO ((mkCel) (k + sumC (fun x : VCel => 2 + x.1.2.1.length + x.1.2.2.1.length + x.2.1.length) a) x)] := by rw [mks_append, List.map_append]; rfl
      have hsa : sumC (fun x : VCel => 2 + x.1.2.1.length + x.1.2.2.1.length + x.2.1.length) (a ++ [x]) = sumC (fun x : VCel => 2 + x.1.2.1.length + x.1.2.2.1.length + x.2.1.length) a + (2 + x.1.2.1.length + x.1.2.2.1.length + x.2.1.length) := by rw [sumC_append]; rfl
      have hca : ∀ r ∈ (mks (mkCel) (fun x : VCel => 2 + x.1.2.1.length + x.1.2.2.1.length + x.2.1.length) k a).map celO, cln r := cln_celO _
      generalize (mks (mkCel) (fun x : VCel => 2 + x.1.2.1.length + x.1.2.2.1.length + x.2.1.length) k a).map celO = A at *
      generalize sumC (fun x : VCel => 2 + x.1.2.1.length + x.1.2.2.1.length + x.2.1.length) a = m at *
      have hf : decide ((A.length : Int) < (A.length + (b.length + 1) : Nat)) = true := decide_eq_true (by omega)
      simp only [← hA]
      simp only [hT, List.map_cons, hf, getD_mid, set_mid, List.length_append, List.length_cons, List.length_map, celO, Int.toNat_natCast, ↓If_lit, eA, Nat.beq, List.toArray, reduceAdd, reduceLT, reduceLeDiff, reduceToNat]
      (try unfold lim); repeat first | ((with_reducible refine And.intro ?_ ?_); (first | omega | exact ⟨by omega, by omega⟩ | rfl)) | intro _
      refine FunM.lend (mk0 x.1.2.1 (k + m + 1) (by omega) (by omega)) ([(0, some 1)]) 0 (by simp only [eD, eM, Nat.beq, reduceLT, reduceAdd, reduceSub, AV.nb]) (by simp only [eD, eM, Nat.beq, reduceLT, reduceAdd, reduceSub, AV.nb]) (by simp only [eD, eM, Nat.beq, reduceLT, reduceAdd, reduceSub, AV.nb]) (by simp only [eD, eM, Nat.beq, reduceLT, reduceAdd, reduceSub, AV.nb]) (by simp only [eD, eM, Nat.beq, reduceLT, reduceAdd, reduceSub, AV.nb]) (by simp only [eD, eM, Nat.beq, reduceLT, reduceAdd, reduceSub, AV.nb]) rfl ?_; simp only [hT, nneg, decide_true, decide_false, ↓If_lit, Int.reduceLT, Int.reduceLE, eD, eM, Nat.beq, reduceLT, reduceAdd, reduceSub, AV.nb, eA, Nat.beq, List.toArray, reduceAdd, reduceLT, reduceLeDiff, reduceToNat]
      try simp only [hT, getD_mid, set_mid, List.length_append, List.length_cons, List.length_map, ↓If_lit, eA, Nat.beq, List.toArray, reduceAdd, reduceLT, reduceLeDiff, reduceToNat]
      (try unfold lim); repeat first | ((with_reducible refine And.intro ?_ ?_); (first | omega | exact ⟨by omega, by omega⟩ | rfl)) | intro _
      refine FunM.lend (mk0 x.1.2.2.1 (k + m + 1 + x.1.2.1.length) (by omega) (by omega)) ([(0, some 2)]) 0 (by simp only [eD, eM, Nat.beq, reduceLT, reduceAdd, reduceSub, AV.nb]) (by simp only [eD, eM, Nat.beq, reduceLT, reduceAdd, reduceSub, AV.nb]) (by simp only [eD, eM, Nat.beq, reduceLT, reduceAdd, reduceSub, AV.nb]) (by simp only [eD, eM, Nat.beq, reduceLT, reduceAdd, reduceSub, AV.nb]) (by simp only [eD, eM, Nat.beq, reduceLT, reduceAdd, reduceSub, AV.nb]) (by simp only [eD, eM, Nat.beq, reduceLT, reduceAdd, reduceSub, AV.nb]) rfl ?_; simp only [hT, nneg, decide_true, decide_false, ↓If_lit, Int.reduceLT, Int.reduceLE, eD, eM, Nat.beq, reduceLT, reduceAdd, reduceSub, AV.nb, eA, Nat.beq, List.toArray, reduceAdd, reduceLT, reduceLeDiff, reduceToNat]
      try simp only [hT, getD_mid, set_mid, List.length_append, List.length_cons, List.length_map, ↓If_lit, eA, Nat.beq, List.toArray, reduceAdd, reduceLT, reduceLeDiff, reduceToNat]
      (try unfold lim); repeat first | ((with_reducible refine And.intro ?_ ?_); (first | omega | exact ⟨by omega, by omega⟩ | rfl)) | intro _
      refine FunM.lend (mk1 x.2.1 (k + m + 1 + x.1.2.1.length + x.1.2.2.1.length + 1) (by omega) (by omega)) ([(0, some 3)]) 0 (by simp only [eD, eM, Nat.beq, reduceLT, reduceAdd, reduceSub, AV.nb]) (by simp only [eD, eM, Nat.beq, reduceLT, reduceAdd, reduceSub, AV.nb]) (by simp only [eD, eM, Nat.beq, reduceLT, reduceAdd, reduceSub, AV.nb]) (by simp only [eD, eM, Nat.beq, reduceLT, reduceAdd, reduceSub, AV.nb]) (by simp only [eD, eM, Nat.beq, reduceLT, reduceAdd, reduceSub, AV.nb]) (by simp only [eD, eM, Nat.beq, reduceLT, reduceAdd, reduceSub, AV.nb]) rfl ?_; simp only [hT, nneg, decide_true, decide_false, ↓If_lit, Int.reduceLT, Int.reduceLE, eD, eM, Nat.beq, reduceLT, reduceAdd, reduceSub, AV.nb, eA, Nat.beq, List.toArray, reduceAdd, reduceLT, reduceLeDiff, reduceToNat]
      try simp only [hT, getD_mid, set_mid, List.length_append, List.length_cons, List.length_map, ↓If_lit, eA, Nat.beq, List.toArray, reduceAdd, reduceLT, reduceLeDiff, reduceToNat]
      (try unfold lim); repeat first | ((with_reducible refine And.intro ?_ ?_); (first | omega | exact ⟨by omega, by omega⟩ | rfl)) | intro _
      refine ⟨⟨a ++ [x], b, by rw [← hz]; simp⟩, Nat.lt_succ_self _, ?_⟩
      refine Le.trans (Le.abs 0 A.length _ (by simp only; omega) (by rfl) rfl (by simp)) ?_
      simp only [absRow, getD_mid, set_mid, eA, Nat.beq, List.toArray, reduceAdd, reduceLT, reduceLeDiff, reduceToNat]
      refine Le.of [] (Nat.le_refl _) ?_ ?_ ?_
      · simp only [eL, eH, eG, leO, Nat.beq, reduceLT]
      · simp only [eL, eH, eG, leO, Nat.beq, reduceLT]; simp [hsa, hA]; omega
      · simp only [eL, eH, eG, leO, Nat.beq, reduceLT, hnew, mkCel, celO, List.append_assoc, List.cons_append, List.nil_append]
        exact leR_mid _ _ _ _ _ (cln_celO b) (by simp only [eL, eH, eG, leO, Nat.beq, reduceLT]) A hca
theorem TY_heldCelCellS {P : Program} (hP : P = Tryz.prog) : (((lkT P 29 = 1) ∧ (elT P 29 = some ((true, (5, 88))))) ∧ ((fldT P 151 0 = some ((0, (true, 4)))) ∧ ((fldT P 148 0 = some ((0, (false, 1)))) ∧ (tyT P 3 = some ((false, 1)))))) ∧ (((fldT P 148 1 = some ((1, (false, 1)))) ∧ ((tyT P 33 = some ((false, 1))) ∧ (fldT P 148 2 = some ((2, (false, 1)))))) ∧ ((fldT P 148 3 = some ((3, (false, 1)))) ∧ ((fldT P 151 1 = some ((4, (false, 1)))) ∧ (tyT P 149 = some ((false, 1)))))) := by subst hP; refine ⟨⟨⟨?_, ?_⟩, ⟨?_, ⟨?_, ?_⟩⟩⟩, ⟨⟨?_, ⟨?_, ?_⟩⟩, ⟨?_, ⟨?_, ?_⟩⟩⟩⟩ <;> kernel_rfl
theorem heldCelCellS {P : Program} [Known P] (hP : P = Tryz.prog) (l : List VCel) (k : Int) (h1 : 0 ≤ k) (h2 : k + sumC (fun x : VCel => 2 + x.1.2.1.length + x.1.2.2.1.length + x.2.1.length) l ≤ 1000000000000) : Fun P 82 [.sl 5 ((mks (mkCel) (fun x : VCel => 2 + x.1.2.1.length + x.1.2.2.1.length + x.2.1.length) k l).map celS) celZ, .int .i64 k] (.int .i64 (k + sumC (fun x : VCel => 2 + x.1.2.1.length + x.1.2.2.1.length + x.2.1.length) l)) := by
  refine fun_of (fn := Tryz.f82) (hP ▸ Tryz.func82) (by kernel_rfl) (by kernel_rfl) (by kernel_rfl) (by kernel_rfl) ?_
  have hT := TY_heldCelCellS hP
  have mk0 := fun l k h1 h2 => heldIntZ hP l k h1 h2
  have mk1 := fun l k h1 h2 => heldByteZ hP l k h1 h2
  clear hP
  intro hl
  clear hl
  simp only [Tryz.f82, hT, eA, Nat.beq, List.toArray, reduceAdd, reduceLT, reduceLeDiff, reduceToNat]
  refine wpc_loop (Zr l) (fun z => ⟨[(0, .sl 5 ((mks (mkCel) (fun x : VCel => 2 + x.1.2.1.length + x.1.2.2.1.length + x.2.1.length) k l).map celS) celZ), (1, .int .i64 (k + sumC (fun x : VCel => 2 + x.1.2.1.length + x.1.2.2.1.length + x.2.1.length) z.a)), (5, .int .i64 z.a.length)], [], 0⟩) (fun z => z.b.length) ⟨[], l, rfl⟩ (Le.of [] (Nat.le_refl _) ?_ ?_ ?_) ?_
  · simp only [eL, eH, eG, leO, Nat.beq, reduceLT]
  · simp only [eL, eH, eG, leO, Nat.beq, reduceLT]; simp [sumC]
  · simp only [eL, eH, eG, leO, Nat.beq, reduceLT]
  · rintro ⟨a, b, hz⟩
    cases b with
    | nil =>
      obtain rfl : a = l := by simpa using hz
      have hf : decide ((a.length : Int) < a.length) = false := decide_eq_false (by omega)
      simp only [hT, List.length_map, mks_length, hf, ↓If_lit, eA, Nat.beq, List.toArray, reduceAdd, reduceLT, reduceLeDiff, reduceToNat]
      (try unfold lim); repeat first | ((with_reducible refine And.intro ?_ ?_); (first | omega | exact ⟨by omega, by omega⟩ | rfl)) | intro _
      first | done | trivial | rfl
    | cons x b =>
      have hsl : sumC (fun x : VCel => 2 + x.1.2.1.length + x.1.2.2.1.length + x.2.1.length) l = sumC (fun x : VCel => 2 + x.1.2.1.length + x.1.2.2.1.length + x.2.1.length) a + ((2 + x.1.2.1.length + x.1.2.2.1.length + x.2.1.length) + sumC (fun x : VCel => 2 + x.1.2.1.length + x.1.2.2.1.length + x.2.1.length) b) := by rw [← hz, sumC_append]; rfl
      have hA : ((mks (mkCel) (fun x : VCel => 2 + x.1.2.1.length + x.1.2.2.1.length + x.2.1.length) k a).map celS).length = a.length := by rw [List.length_map, mks_length]
      have hrow : ∀ d, ((mks (mkCel) (fun x : VCel => 2 + x.1.2.1.length + x.1.2.2.1.length + x.2.1.length) k l).map celS).getD a.length d = celS ((mkCel) (k + sumC (fun x : VCel => 2 + x.1.2.1.length + x.1.2.2.1.length + x.2.1.length) a) x) := fun d => by
        rw [← hA, ← hz, mks_append, List.map_append, mks, List.map_cons, getD_mid]
      have hlen : ((mks (mkCel) (fun x : VCel => 2 + x.1.2.1.length + x.1.2.2.1.length + x.2.1.length) k l).map celS).length = l.length := by rw [List.length_map, mks_length]
      have hsa : sumC (fun x : VCel => 2 + x.1.2.1.length + x.1.2.2.1.length + x.2.1.length) (a ++ [x]) = sumC (fun x : VCel => 2 + x.1.2.1.length + x.1.2.2.1.length + x.2.1.length) a + (2 + x.1.2.1.length + x.1.2.2.1.length + x.2.1.length) := by rw [sumC_append]; rfl
      have hll : l.length = a.length + (b.length + 1) := by rw [← hz]; simp
      generalize (mks (mkCel) (fun x : VCel => 2 + x.1.2.1.length + x.1.2.2.1.length + x.2.1.length) k l).map celS = A at *
      generalize sumC (fun x : VCel => 2 + x.1.2.1.length + x.1.2.2.1.length + x.2.1.length) a = m at *
      have h3 : decide (k + m + 1 + x.1.2.1.length < 0) = false := decide_eq_false (by omega)
      have h4 : decide (k + m + 1 + x.1.2.1.length + x.1.2.2.1.length < 0) = false := decide_eq_false (by omega)
      have h5 : decide (k + m + 1 + x.1.2.1.length + x.1.2.2.1.length + 1 + x.2.1.length < 0) = false := decide_eq_false (by omega)
      have hf : decide ((a.length : Int) < l.length) = true := decide_eq_true (by omega)
      simp only [hT, hf, hrow, hlen, mkCel, celS, Int.toNat_natCast, eq_self, decide_true, Bool.not_true, ↓If_lit, eA, Nat.beq, List.toArray, reduceAdd, reduceLT, reduceLeDiff, reduceToNat]
      (try unfold lim); repeat first | ((with_reducible refine And.intro ?_ ?_); (first | omega | exact ⟨by omega, by omega⟩ | rfl)) | intro _
      refine Fun.plain (mk0 x.1.2.1.length (k + m + 1) (by omega) (by omega)) rfl rfl rfl rfl ?_
      simp only [hT, h3, hrow, hlen, mkCel, celS, Int.toNat_natCast, eq_self, decide_true, Bool.not_true, ↓If_lit, eA, Nat.beq, List.toArray, reduceAdd, reduceLT, reduceLeDiff, reduceToNat]
      (try unfold lim); repeat first | ((with_reducible refine And.intro ?_ ?_); (first | omega | exact ⟨by omega, by omega⟩ | rfl)) | intro _
      refine Fun.plain (mk0 x.1.2.2.1.length (k + m + 1 + x.1.2.1.length) (by omega) (by omega)) rfl rfl rfl rfl ?_
      simp only [hT, h4, hrow, hlen, mkCel, celS, Int.toNat_natCast, eq_self, decide_true, Bool.not_true, ↓If_lit, eA, Nat.beq, List.toArray, reduceAdd, reduceLT, reduceLeDiff, reduceToNat]
      (try unfold lim); repeat first | ((with_reducible refine And.intro ?_ ?_); (first | omega | exact ⟨by omega, by omega⟩ | rfl)) | intro _
      refine Fun.plain (mk1 x.2.1.length (k + m + 1 + x.1.2.1.length + x.1.2.2.1.length + 1) (by omega) (by omega)) rfl rfl rfl rfl ?_
      simp only [hT, h5, hrow, hlen, mkCel, celS, Int.toNat_natCast, eq_self, decide_true, Bool.not_true, ↓If_lit, eA, Nat.beq, List.toArray, reduceAdd, reduceLT, reduceLeDiff, reduceToNat]
      (try unfold lim); repeat first | ((with_reducible refine And.intro ?_ ?_); (first | omega | exact ⟨by omega, by omega⟩ | rfl)) | intro _
      refine ⟨⟨a ++ [x], b, by rw [← hz]; simp⟩, Nat.lt_succ_self _, Le.of [] (Nat.le_refl _) ?_ ?_ ?_⟩
      · simp only [eL, eH, eG, leO, Nat.beq, reduceLT]
      · simp only [eL, eH, eG, leO, Nat.beq, reduceLT]; simp [hsa]; try omega
      · simp only [eL, eH, eG, leO, Nat.beq, reduceLT]
def mkBox (k : Int) (x : VBox) : VBox := (k, mks (fun (k : Int) (x : List UInt8) => mkB k x.length) (fun x : List UInt8 => x.length) (k + 1) x.2.1, ())
theorem np_boxO (x : VBox) : npL (boxO x) = true := rfl
theorem TY_markBoxBoxS {P : Program} (hP : P = Tryz.prog) : ((lkT P 30 = 1) ∧ ((elT P 30 = some ((true, (2, 32)))) ∧ (fldT P 163 0 = some ((0, (false, 1)))))) ∧ ((tyT P 3 = some ((false, 1))) ∧ ((fldT P 163 1 = some ((1, (false, 1)))) ∧ (tyT P 79 = some ((false, 1))))) := by subst hP; refine ⟨⟨?_, ⟨?_, ?_⟩⟩, ⟨?_, ⟨?_, ?_⟩⟩⟩ <;> kernel_rfl
theorem markBoxBoxS {P : Program} [Known P] (hP : P = Tryz.prog) (l : List VBox) (k : Int) (h1 : 0 ≤ k) (h2 : k + sumC (fun x : VBox => 1 + sumC (fun x : List UInt8 => x.length) x.2.1) l ≤ 1000000000000) : FunM P 78 1 [.os 0, .int .i64 k] [(0, ⟨2, l.map boxO, boxZ, true⟩)] (.int .i64 (k + sumC (fun x : VBox => 1 + sumC (fun x : List UInt8 => x.length) x.2.1) l)) [(0, ⟨2, (mks (mkBox) (fun x : VBox => 1 + sumC (fun x : List UInt8 => x.length) x.2.1) k l).map boxO, boxZ, false⟩)] := by
  refine FunX.m ?_
  refine fun_ofG (fn := Tryz.f78) (hP ▸ Tryz.func78) (by kernel_rfl) (by kernel_rfl) (by kernel_rfl) (by kernel_rfl) ?_
  have hT := TY_markBoxBoxS hP
  have mk0 := fun l k h1 h2 => markByteSS hP l k h1 h2
  clear hP
  intro hl
  clear hl
  simp only [Tryz.f78, hT, eA, Nat.beq, List.toArray, reduceAdd, reduceLT, reduceLeDiff, reduceToNat]
  refine wpc_loop (Zr l) (fun z => ⟨[(0, .os 0), (1, .int .i64 (k + sumC (fun x : VBox => 1 + sumC (fun x : List UInt8 => x.length) x.2.1) z.a)), (5, .int .i64 z.a.length)], [(0, ⟨2, (mks (mkBox) (fun x : VBox => 1 + sumC (fun x : List UInt8 => x.length) x.2.1) k z.a).map boxO ++ z.b.map boxO, boxZ, true⟩)], 1⟩) (fun z => z.b.length) ⟨[], l, rfl⟩ (Le.of [] (Nat.le_refl _) ?_ ?_ ?_) ?_
  · simp only [eL, eH, eG, leO, Nat.beq, reduceLT]
  · simp only [eL, eH, eG, leO, Nat.beq, reduceLT]; simp [sumC]
  · simp only [eL, eH, eG, leO, Nat.beq, reduceLT]; exact leR_cln _ _ _ (cln_boxO l)
  · rintro ⟨a, b, hz⟩
    cases b with
    | nil =>
      obtain rfl : a = l := by simpa using hz
      have hA : ((mks (mkBox) (fun x : VBox => 1 + sumC (fun x : List UInt8 => x.length) x.2.1) k a).map boxO).length = a.length := by rw [List.length_map, mks_length]
      have hf : decide ((a.length : Int) < a.length) = false := decide_eq_false (by omega)
      simp only [hT, List.map_nil, List.append_nil, hA, hf, ↓If_lit, eA, Nat.beq, List.toArray, reduceAdd, reduceLT, reduceLeDiff, reduceToNat]
      (try unfold lim); repeat first | ((with_reducible refine And.intro ?_ ?_); (first | omega | exact ⟨by omega, by omega⟩ | rfl)) | intro _
      refine RetG.le (Le.shut 0 _ (by simp only; omega) (by rfl) (np_mks _ np_boxO _)) (RetG.fin ?_)
      simp only [eA, Nat.beq, List.toArray, reduceAdd, reduceLT, reduceLeDiff, reduceToNat]
      exact ⟨_, _, ⟨rfl, rfl⟩, ⟨rfl, rfl⟩, ⟨rfl, trivial⟩⟩
    | cons x b =>
      have hsl : sumC (fun x : VBox => 1 + sumC (fun x : List UInt8 => x.length) x.2.1) l = sumC (fun x : VBox => 1 + sumC (fun x : List UInt8 => x.length) x.2.1) a + ((1 + sumC (fun x : List UInt8 => x.length) x.2.1) + sumC (fun x : VBox => 1 + sumC (fun x : List UInt8 => x.length) x.2.1) b) := by rw [← hz, sumC_append]; rfl
      have hA : ((mks (mkBox) (fun x : VBox => 1 + sumC (fun x : List UInt8 => x.length) x.2.1) k a).map boxO).length = a.length := by rw [List.length_map, mks_length]
      have hnew : (mks (mkBox) (fun x : VBox => 1 + sumC (fun x : List UInt8 => x.length) x.2.1) k (a ++ [x])).map boxO = (mks (mkBox) (fun x : VBox => 1 + sumC (fun x : List UInt8 => x.length) x.2.1) k a).map boxO ++ [boxO ((mkBox) (k + sumC (fun x : VBox => 1 + sumC (fun x : List UInt8 => x.length) x.2.1) a) x)] := by rw [mks_append, List.map_append]; rfl
      have hsa : sumC (fun x : VBox => 1 + sumC (fun x : List UInt8 => x.length) x.2.1) (a ++ [x]) = sumC (fun x : VBox => 1 + sumC (fun x : List UInt8 => x.length) x.2.1) a + (1 + sumC (fun x : List UInt8 => x.length) x.2.1) := by rw [sumC_append]; rfl
      have hca : ∀ r ∈ (mks (mkBox) (fun x : VBox => 1 + sumC (fun x : List UInt8 => x.length) x.2.1) k a).map boxO, cln r := cln_boxO _
      generalize (mks (mkBox) (fun x : VBox => 1 + sumC (fun x : List UInt8 => x.length) x.2.1) k a).map boxO = A at *
      generalize sumC (fun x : VBox => 1 + sumC (fun x : List UInt8 => x.length) x.2.1) a = m at *
      have hf : decide ((A.length : Int) < (A.length + (b.length + 1) : Nat)) = true := decide_eq_true (by omega)
      simp only [← hA]
      simp only [hT, List.map_cons, hf, getD_mid, set_mid, List.length_append, List.length_cons, List.length_map, boxO, Int.toNat_natCast, ↓If_lit, eA, Nat.beq, List.toArray, reduceAdd, reduceLT, reduceLeDiff, reduceToNat]
      (try unfold lim); repeat first | ((with_reducible refine And.intro ?_ ?_); (first | omega | exact ⟨by omega, by omega⟩ | rfl)) | intro _
      refine FunM.lend (mk0 x.2.1 (k + m + 1) (by omega) (by omega)) ([(0, some 1)]) 0 (by simp only [eD, eM, Nat.beq, reduceLT, reduceAdd, reduceSub, AV.nb]) (by simp only [eD, eM, Nat.beq, reduceLT, reduceAdd, reduceSub, AV.nb]) (by simp only [eD, eM, Nat.beq, reduceLT, reduceAdd, reduceSub, AV.nb]) (by simp only [eD, eM, Nat.beq, reduceLT, reduceAdd, reduceSub, AV.nb]) (by simp only [eD, eM, Nat.beq, reduceLT, reduceAdd, reduceSub, AV.nb]) (by simp only [eD, eM, Nat.beq, reduceLT, reduceAdd, reduceSub, AV.nb]) rfl ?_; simp only [hT, nneg, decide_true, decide_false, ↓If_lit, Int.reduceLT, Int.reduceLE, eD, eM, Nat.beq, reduceLT, reduceAdd, reduceSub, AV.nb, eA, Nat.beq, List.toArray, reduceAdd, reduceLT, reduceLeDiff, reduceToNat]
      try simp only [hT, getD_mid, set_mid, List.length_append, List.length_cons, List.length_map, ↓If_lit, eA, Nat.beq, List.toArray, reduceAdd, reduceLT, reduceLeDiff, reduceToNat]
      (try unfold lim); repeat first | ((with_reducible refine And.intro ?_ ?_); (first | omega | exact ⟨by omega, by omega⟩ | rfl)) | intro _
      refine ⟨⟨a ++ [x], b, by rw [← hz]; simp⟩, Nat.lt_succ_self _, ?_⟩
      refine Le.trans (Le.abs 0 A.length _ (by simp only; omega) (by rfl) rfl (by simp)) ?_
      simp only [absRow, getD_mid, set_mid, eA, Nat.beq, List.toArray, reduceAdd, reduceLT, reduceLeDiff, reduceToNat]
      refine Le.of [] (Nat.le_refl _) ?_ ?_ ?_
      · simp only [eL, eH, eG, leO, Nat.beq, reduceLT]
      · simp only [eL, eH, eG, leO, Nat.beq, reduceLT]; simp [hsa, hA]; omega
      · simp only [eL, eH, eG, leO, Nat.beq, reduceLT, hnew, mkBox, boxO, List.append_assoc, List.cons_append, List.nil_append]
        exact leR_mid _ _ _ _ _ (cln_boxO b) (by simp only [eL, eH, eG, leO, Nat.beq, reduceLT]) A hca
theorem TY_heldBoxBoxS {P : Program} (hP : P = Tryz.prog) : ((lkT P 30 = 1) ∧ ((elT P 30 = some ((true, (2, 32)))) ∧ (fldT P 163 0 = some ((0, (false, 1)))))) ∧ ((tyT P 3 = some ((false, 1))) ∧ ((fldT P 163 1 = some ((1, (false, 1)))) ∧ (tyT P 79 = some ((false, 1))))) := by subst hP; refine ⟨⟨?_, ⟨?_, ?_⟩⟩, ⟨?_, ⟨?_, ?_⟩⟩⟩ <;> kernel_rfl
theorem heldBoxBoxS {P : Program} [Known P] (hP : P = Tryz.prog) (l : List VBox) (k : Int) (h1 : 0 ≤ k) (h2 : k + sumC (fun x : VBox => 1 + sumC (fun x : List UInt8 => x.length) x.2.1) l ≤ 1000000000000) : Fun P 83 [.sl 2 ((mks (mkBox) (fun x : VBox => 1 + sumC (fun x : List UInt8 => x.length) x.2.1) k l).map boxS) boxZ, .int .i64 k] (.int .i64 (k + sumC (fun x : VBox => 1 + sumC (fun x : List UInt8 => x.length) x.2.1) l)) := by
  refine fun_of (fn := Tryz.f83) (hP ▸ Tryz.func83) (by kernel_rfl) (by kernel_rfl) (by kernel_rfl) (by kernel_rfl) ?_
  have hT := TY_heldBoxBoxS hP
  have mk0 := fun l k h1 h2 => heldByteSS hP l k h1 h2
  clear hP
  intro hl
  clear hl
  simp only [Tryz.f83, hT, eA, Nat.beq, List.toArray, reduceAdd, reduceLT, reduceLeDiff, reduceToNat]
  refine wpc_loop (Zr l) (fun z => ⟨[(0, .sl 2 ((mks (mkBox) (fun x : VBox => 1 + sumC (fun x : List UInt8 => x.length) x.2.1) k l).map boxS) boxZ), (1, .int .i64 (k + sumC (fun x : VBox => 1 + sumC (fun x : List UInt8 => x.length) x.2.1) z.a)), (5, .int .i64 z.a.length)], [], 0⟩) (fun z => z.b.length) ⟨[], l, rfl⟩ (Le.of [] (Nat.le_refl _) ?_ ?_ ?_) ?_
  · simp only [eL, eH, eG, leO, Nat.beq, reduceLT]
  · simp only [eL, eH, eG, leO, Nat.beq, reduceLT]; simp [sumC]
  · simp only [eL, eH, eG, leO, Nat.beq, reduceLT]
  · rintro ⟨a, b, hz⟩
    cases b with
    | nil =>
      obtain rfl : a = l := by simpa using hz
      have hf : decide ((a.length : Int) < a.length) = false := decide_eq_false (by omega)
      simp only [hT, List.length_map, mks_length, hf, ↓If_lit, eA, Nat.beq, List.toArray, reduceAdd, reduceLT, reduceLeDiff, reduceToNat]
      (try unfold lim); repeat first | ((with_reducible refine And.intro ?_ ?_); (first | omega | exact ⟨by omega, by omega⟩ | rfl)) | intro _
      first | done | trivial | rfl
    | cons x b =>
      have hsl : sumC (fun x : VBox => 1 + sumC (fun x : List UInt8 => x.length) x.2.1) l = sumC (fun x : VBox => 1 + sumC (fun x : List UInt8 => x.length) x.2.1) a + ((1 + sumC (fun x : List UInt8 => x.length) x.2.1) + sumC (fun x : VBox => 1 + sumC (fun x : List UInt8 => x.length) x.2.1) b) := by rw [← hz, sumC_append]; rfl
      have hA : ((mks (mkBox) (fun x : VBox => 1 + sumC (fun x : List UInt8 => x.length) x.2.1) k a).map boxS).length = a.length := by rw [List.length_map, mks_length]
      have hrow : ∀ d, ((mks (mkBox) (fun x : VBox => 1 + sumC (fun x : List UInt8 => x.length) x.2.1) k l).map boxS).getD a.length d = boxS ((mkBox) (k + sumC (fun x : VBox => 1 + sumC (fun x : List UInt8 => x.length) x.2.1) a) x) := fun d => by
        rw [← hA, ← hz, mks_append, List.map_append, mks, List.map_cons, getD_mid]
      have hlen : ((mks (mkBox) (fun x : VBox => 1 + sumC (fun x : List UInt8 => x.length) x.2.1) k l).map boxS).length = l.length := by rw [List.length_map, mks_length]
      have hsa : sumC (fun x : VBox => 1 + sumC (fun x : List UInt8 => x.length) x.2.1) (a ++ [x]) = sumC (fun x : VBox => 1 + sumC (fun x : List UInt8 => x.length) x.2.1) a + (1 + sumC (fun x : List UInt8 => x.length) x.2.1) := by rw [sumC_append]; rfl
      have hll : l.length = a.length + (b.length + 1) := by rw [← hz]; simp
      generalize (mks (mkBox) (fun x : VBox => 1 + sumC (fun x : List UInt8 => x.length) x.2.1) k l).map boxS = A at *
      generalize sumC (fun x : VBox => 1 + sumC (fun x : List UInt8 => x.length) x.2.1) a = m at *
      have h3 : decide (k + m + 1 + sumC (fun x : List UInt8 => x.length) x.2.1 < 0) = false := decide_eq_false (by omega)
      have hf : decide ((a.length : Int) < l.length) = true := decide_eq_true (by omega)
      simp only [hT, hf, hrow, hlen, mkBox, boxS, Int.toNat_natCast, eq_self, decide_true, Bool.not_true, ↓If_lit, eA, Nat.beq, List.toArray, reduceAdd, reduceLT, reduceLeDiff, reduceToNat]
      (try unfold lim); repeat first | ((with_reducible refine And.intro ?_ ?_); (first | omega | exact ⟨by omega, by omega⟩ | rfl)) | intro _
      refine Fun.plain (mk0 x.2.1 (k + m + 1) (by omega) (by omega)) rfl rfl rfl rfl ?_
      simp only [hT, h3, hrow, hlen, mkBox, boxS, Int.toNat_natCast, eq_self, decide_true, Bool.not_true, ↓If_lit, eA, Nat.beq, List.toArray, reduceAdd, reduceLT, reduceLeDiff, reduceToNat]
      (try unfold lim); repeat first | ((with_reducible refine And.intro ?_ ?_); (first | omega | exact ⟨by omega, by omega⟩ | rfl)) | intro _
      refine ⟨⟨a ++ [x], b, by rw [← hz]; simp⟩, Nat.lt_succ_self _, Le.of [] (Nat.le_refl _) ?_ ?_ ?_⟩
      · simp only [eL, eH, eG, leO, Nat.beq, reduceLT]
      · simp only [eL, eH, eG, leO, Nat.beq, reduceLT]; simp [hsa]; try omega
      · simp only [eL, eH, eG, leO, Nat.beq, reduceLT]
theorem TY_markHrdBook {P : Program} (hP : P = Tryz.prog) : (fldT P 35 0 = some ((0, (false, 1)))) ∧ ((tyT P 33 = some ((false, 1))) ∧ (fldT P 35 1 = some ((1, (false, 1))))) := by subst hP; refine ⟨?_, ⟨?_, ?_⟩⟩ <;> kernel_rfl
theorem markHrdBook {P : Program} [Known P] (hP : P = Tryz.prog) (h : VHrd) (k : Int) (h1 : 0 ≤ k) (h2 : k + h.1.length + h.2.1.length ≤ 1000000000000) : FunM P 81 2 [.agg [.os 0, .os 1], .int .i64 k] [(0, ⟨1, h.1.map intE, iZ, true⟩), (1, ⟨1, h.2.1.map intE, iZ, true⟩)] (.int .i64 (k + h.1.length + h.2.1.length)) [(0, ⟨1, (mkI k h.1.length).map intE, iZ, false⟩), (1, ⟨1, (mkI (k + h.1.length) h.2.1.length).map intE, iZ, false⟩)] := by
  refine fun_ofM (fn := Tryz.f81) (hP ▸ Tryz.func81) (by kernel_rfl) (by kernel_rfl) (by kernel_rfl) (by kernel_rfl) ?_
  have hT := TY_markHrdBook hP
  have mk0 := fun l k h1 h2 => markIntZ hP l k h1 h2
  clear hP
  intro hl
  clear hl
  simp only [Tryz.f81, hT, eA, Nat.beq, List.toArray, reduceAdd, reduceLT, reduceLeDiff, reduceToNat]
  (try unfold lim); repeat first | ((with_reducible refine And.intro ?_ ?_); (first | omega | exact ⟨by omega, by omega⟩ | rfl)) | intro _
  refine FunM.lend (mk0 h.1 k (by omega) (by omega)) ([(0, some 0)]) 0 (by simp only [eD, eM, Nat.beq, reduceLT, reduceAdd, reduceSub, AV.nb]) (by simp only [eD, eM, Nat.beq, reduceLT, reduceAdd, reduceSub, AV.nb]) (by simp only [eD, eM, Nat.beq, reduceLT, reduceAdd, reduceSub, AV.nb]) (by simp only [eD, eM, Nat.beq, reduceLT, reduceAdd, reduceSub, AV.nb]; exact leR_cln _ _ _ (cln_intE _)) (by simp only [eD, eM, Nat.beq, reduceLT, reduceAdd, reduceSub, AV.nb]) (by simp only [eD, eM, Nat.beq, reduceLT, reduceAdd, reduceSub, AV.nb]) rfl ?_; simp only [hT, nneg, decide_true, decide_false, ↓If_lit, Int.reduceLT, Int.reduceLE, eD, eM, Nat.beq, reduceLT, reduceAdd, reduceSub, AV.nb, eA, Nat.beq, List.toArray, reduceAdd, reduceLT, reduceLeDiff, reduceToNat]
  (try unfold lim); repeat first | ((with_reducible refine And.intro ?_ ?_); (first | omega | exact ⟨by omega, by omega⟩ | rfl)) | intro _
  refine FunM.lend (mk0 h.2.1 (k + h.1.length) (by omega) (by omega)) ([(0, some 1)]) 0 (by simp only [eD, eM, Nat.beq, reduceLT, reduceAdd, reduceSub, AV.nb]) (by simp only [eD, eM, Nat.beq, reduceLT, reduceAdd, reduceSub, AV.nb]) (by simp only [eD, eM, Nat.beq, reduceLT, reduceAdd, reduceSub, AV.nb]) (by simp only [eD, eM, Nat.beq, reduceLT, reduceAdd, reduceSub, AV.nb]; exact leR_cln _ _ _ (cln_intE _)) (by simp only [eD, eM, Nat.beq, reduceLT, reduceAdd, reduceSub, AV.nb]) (by simp only [eD, eM, Nat.beq, reduceLT, reduceAdd, reduceSub, AV.nb]) rfl ?_; simp only [hT, nneg, decide_true, decide_false, ↓If_lit, Int.reduceLT, Int.reduceLE, eD, eM, Nat.beq, reduceLT, reduceAdd, reduceSub, AV.nb, eA, Nat.beq, List.toArray, reduceAdd, reduceLT, reduceLeDiff, reduceToNat]
  (try unfold lim); repeat first | ((with_reducible refine And.intro ?_ ?_); (first | omega | exact ⟨by omega, by omega⟩ | rfl)) | intro _
  first | done | trivial | rfl | exact ⟨rfl, rfl⟩ | exact ⟨rfl, rfl, trivial⟩
theorem TY_heldHrdBook {P : Program} (hP : P = Tryz.prog) : (fldT P 35 0 = some ((0, (false, 1)))) ∧ ((tyT P 33 = some ((false, 1))) ∧ (fldT P 35 1 = some ((1, (false, 1))))) := by subst hP; refine ⟨?_, ⟨?_, ?_⟩⟩ <;> kernel_rfl
theorem heldHrdBook {P : Program} [Known P] (hP : P = Tryz.prog) (h : VHrd) (k : Int) (h1 : 0 ≤ k) (h2 : k + h.1.length + h.2.1.length ≤ 1000000000000) : Fun P 86 [.agg [intsS (mkI k h.1.length), intsS (mkI (k + h.1.length) h.2.1.length)], .int .i64 k] (.int .i64 (k + h.1.length + h.2.1.length)) := by
  refine fun_of (fn := Tryz.f86) (hP ▸ Tryz.func86) (by kernel_rfl) (by kernel_rfl) (by kernel_rfl) (by kernel_rfl) ?_
  have hT := TY_heldHrdBook hP
  have mk0 := fun n k h1 h2 => heldIntZ hP n k h1 h2
  clear hP
  intro hl
  clear hl
  have h3 : decide (k + h.1.length < 0) = false := decide_eq_false (by omega)
  have h4 : decide (k + h.1.length + h.2.1.length < 0) = false := decide_eq_false (by omega)
  simp only [Tryz.f86, hT, eA, Nat.beq, List.toArray, reduceAdd, reduceLT, reduceLeDiff, reduceToNat]
  refine Fun.plain (mk0 h.1.length k (by omega) (by omega)) rfl rfl rfl rfl ?_
  simp only [hT, h3, ↓If_lit, eA, Nat.beq, List.toArray, reduceAdd, reduceLT, reduceLeDiff, reduceToNat]
  refine Fun.plain (mk0 h.2.1.length (k + h.1.length) (by omega) (by omega)) rfl rfl rfl rfl ?_
  simp only [hT, h4, ↓If_lit, eA, Nat.beq, List.toArray, reduceAdd, reduceLT, reduceLeDiff, reduceToNat]
def nodT (n : VNod) : Nat := sumC (fun x : VCel => 2 + x.1.2.1.length + x.1.2.2.1.length + x.2.1.length) n.cells + sumC (fun x : VBox => 1 + sumC (fun x : List UInt8 => x.length) x.2.1) n.out + sumC (fun x : VBox => 1 + sumC (fun x : List UInt8 => x.length) x.2.1) n.inn + sumC (fun _ : VOut => 4) n.outs + sumC (fun _ : VInn => 3) n.inns + n.heard.1.length + n.heard.2.1.length
def mkNod (k : Int) (n : VNod) : VNod := ((n.up, n.boot, n.hello, mks mkCel (fun x : VCel => 2 + x.1.2.1.length + x.1.2.2.1.length + x.2.1.length) (k) n.cells, mks mkBox (fun x : VBox => 1 + sumC (fun x : List UInt8 => x.length) x.2.1) (k + sumC (fun x : VCel => 2 + x.1.2.1.length + x.1.2.2.1.length + x.2.1.length) n.cells) n.out, mks mkBox (fun x : VBox => 1 + sumC (fun x : List UInt8 => x.length) x.2.1) (k + sumC (fun x : VCel => 2 + x.1.2.1.length + x.1.2.2.1.length + x.2.1.length) n.cells + sumC (fun x : VBox => 1 + sumC (fun x : List UInt8 => x.length) x.2.1) n.out) n.inn, mks (fun (k : Int) (_ : VOut) => ((k, k + 1, k + 1 + 1, k + 1 + 1 + 1, ()) : VOut)) (fun _ : VOut => 4) (k + sumC (fun x : VCel => 2 + x.1.2.1.length + x.1.2.2.1.length + x.2.1.length) n.cells + sumC (fun x : VBox => 1 + sumC (fun x : List UInt8 => x.length) x.2.1) n.out + sumC (fun x : VBox => 1 + sumC (fun x : List UInt8 => x.length) x.2.1) n.inn) n.outs, mks (fun (k : Int) (_ : VInn) => ((k, k + 1, k + 1 + 1, ()) : VInn)) (fun _ : VInn => 3) (k + sumC (fun x : VCel => 2 + x.1.2.1.length + x.1.2.2.1.length + x.2.1.length) n.cells + sumC (fun x : VBox => 1 + sumC (fun x : List UInt8 => x.length) x.2.1) n.out + sumC (fun x : VBox => 1 + sumC (fun x : List UInt8 => x.length) x.2.1) n.inn + sumC (fun _ : VOut => 4) n.outs) n.inns, (mkI (k + sumC (fun x : VCel => 2 + x.1.2.1.length + x.1.2.2.1.length + x.2.1.length) n.cells + sumC (fun x : VBox => 1 + sumC (fun x : List UInt8 => x.length) x.2.1) n.out + sumC (fun x : VBox => 1 + sumC (fun x : List UInt8 => x.length) x.2.1) n.inn + sumC (fun _ : VOut => 4) n.outs + sumC (fun _ : VInn => 3) n.inns) n.heard.1.length, mkI (k + sumC (fun x : VCel => 2 + x.1.2.1.length + x.1.2.2.1.length + x.2.1.length) n.cells + sumC (fun x : VBox => 1 + sumC (fun x : List UInt8 => x.length) x.2.1) n.out + sumC (fun x : VBox => 1 + sumC (fun x : List UInt8 => x.length) x.2.1) n.inn + sumC (fun _ : VOut => 4) n.outs + sumC (fun _ : VInn => 3) n.inns + n.heard.1.length) n.heard.2.1.length, ()), ()) : VNod)
theorem TY_markNodNode {P : Program} (hP : P = Tryz.prog) : (((fldT P 37 3 = some ((3, (false, 1)))) ∧ (tyT P 29 = some ((false, 1)))) ∧ ((fldT P 37 4 = some ((4, (false, 1)))) ∧ ((tyT P 30 = some ((false, 1))) ∧ (fldT P 37 5 = some ((5, (false, 1))))))) ∧ (((fldT P 37 6 = some ((6, (false, 1)))) ∧ ((tyT P 31 = some ((false, 1))) ∧ (fldT P 37 7 = some ((7, (false, 1)))))) ∧ ((tyT P 32 = some ((false, 1))) ∧ ((fldT P 37 8 = some ((8, (true, 2)))) ∧ (tyT P 35 = some ((true, 2)))))) := by subst hP; refine ⟨⟨⟨?_, ?_⟩, ⟨?_, ⟨?_, ?_⟩⟩⟩, ⟨⟨?_, ⟨?_, ?_⟩⟩, ⟨?_, ⟨?_, ?_⟩⟩⟩⟩ <;> kernel_rfl
theorem markNodNode {P : Program} [Known P] (hP : P = Tryz.prog) (n : VNod) (k : Int) (h1 : 0 ≤ k) (h2 : k + nodT n ≤ 1000000000000) (u : Bool) (a b : Int) : FunM P 20 7 [.agg [.bool u, .int .i64 a, .int .i64 b, .os 0, .os 1, .os 2, .os 3, .os 4, .os 5, .os 6], .int .i64 k] [(0, ⟨5, (n).cells.map celO, celZ, true⟩), (1, ⟨2, (n).out.map boxO, boxZ, true⟩), (2, ⟨2, (n).inn.map boxO, boxZ, true⟩), (3, ⟨4, (n).outs.map outE, outZ, true⟩), (4, ⟨3, (n).inns.map innE, innZ, true⟩), (5, ⟨1, (n).heard.1.map intE, iZ, true⟩), (6, ⟨1, (n).heard.2.1.map intE, iZ, true⟩)] (.int .i64 (k + nodT n)) [(0, ⟨5, (mkNod k n).cells.map celO, celZ, false⟩), (1, ⟨2, (mkNod k n).out.map boxO, boxZ, false⟩), (2, ⟨2, (mkNod k n).inn.map boxO, boxZ, false⟩), (3, ⟨4, (mkNod k n).outs.map outE, outZ, false⟩), (4, ⟨3, (mkNod k n).inns.map innE, innZ, false⟩), (5, ⟨1, (mkNod k n).heard.1.map intE, iZ, false⟩), (6, ⟨1, (mkNod k n).heard.2.1.map intE, iZ, false⟩)] := by
  refine fun_ofM (fn := Tryz.f20) (hP ▸ Tryz.func20) (by kernel_rfl) (by kernel_rfl) (by kernel_rfl) (by kernel_rfl) ?_
  have hT := TY_markNodNode hP
  have mk0 := fun l k h1 h2 => markCelCellS hP l k h1 h2
  have mk1 := fun l k h1 h2 => markBoxBoxS hP l k h1 h2
  have mk2 := fun l k h1 h2 => markOutOutS hP l k h1 h2
  have mk3 := fun l k h1 h2 => markInInS hP l k h1 h2
  have mk4 := fun h k h1 h2 => markHrdBook hP h k h1 h2
  clear hP
  intro hl
  clear hl
  have he : k + (nodT n : Int) = k + sumC (fun x : VCel => 2 + x.1.2.1.length + x.1.2.2.1.length + x.2.1.length) n.cells + sumC (fun x : VBox => 1 + sumC (fun x : List UInt8 => x.length) x.2.1) n.out + sumC (fun x : VBox => 1 + sumC (fun x : List UInt8 => x.length) x.2.1) n.inn + sumC (fun _ : VOut => 4) n.outs + sumC (fun _ : VInn => 3) n.inns + n.heard.1.length + n.heard.2.1.length := by unfold nodT; omega
  rw [he] at h2 ⊢
  simp only [Tryz.f20, hT, eA, Nat.beq, List.toArray, reduceAdd, reduceLT, reduceLeDiff, reduceToNat]
  (try unfold lim); repeat first | ((with_reducible refine And.intro ?_ ?_); (first | omega | exact ⟨by omega, by omega⟩ | rfl)) | intro _
  refine FunM.lend (mk0 n.cells (k) (by omega) (by omega)) ([(0, some 0)]) 0 (by simp only [eD, eM, Nat.beq, reduceLT, reduceAdd, reduceSub, AV.nb]) (by simp only [eD, eM, Nat.beq, reduceLT, reduceAdd, reduceSub, AV.nb]) (by simp only [eD, eM, Nat.beq, reduceLT, reduceAdd, reduceSub, AV.nb]) (by simp only [eD, eM, Nat.beq, reduceLT, reduceAdd, reduceSub, AV.nb]; exact leR_cln _ _ _ (cln_celO _)) (by simp only [eD, eM, Nat.beq, reduceLT, reduceAdd, reduceSub, AV.nb]) (by simp only [eD, eM, Nat.beq, reduceLT, reduceAdd, reduceSub, AV.nb]) rfl ?_; simp only [hT, nneg, decide_true, decide_false, ↓If_lit, Int.reduceLT, Int.reduceLE, eD, eM, Nat.beq, reduceLT, reduceAdd, reduceSub, AV.nb, eA, Nat.beq, List.toArray, reduceAdd, reduceLT, reduceLeDiff, reduceToNat]
  (try unfold lim); repeat first | ((with_reducible refine And.intro ?_ ?_); (first | omega | exact ⟨by omega, by omega⟩ | rfl)) | intro _
  refine FunM.lend (mk1 n.out (k + sumC (fun x : VCel => 2 + x.1.2.1.length + x.1.2.2.1.length + x.2.1.length) n.cells) (by omega) (by omega)) ([(0, some 1)]) 0 (by simp only [eD, eM, Nat.beq, reduceLT, reduceAdd, reduceSub, AV.nb]) (by simp only [eD, eM, Nat.beq, reduceLT, reduceAdd, reduceSub, AV.nb]) (by simp only [eD, eM, Nat.beq, reduceLT, reduceAdd, reduceSub, AV.nb]) (by simp only [eD, eM, Nat.beq, reduceLT, reduceAdd, reduceSub, AV.nb]; exact leR_cln _ _ _ (cln_boxO _)) (by simp only [eD, eM, Nat.beq, reduceLT, reduceAdd, reduceSub, AV.nb]) (by simp only [eD, eM, Nat.beq, reduceLT, reduceAdd, reduceSub, AV.nb]) rfl ?_; simp only [hT, nneg, decide_true, decide_false, ↓If_lit, Int.reduceLT, Int.reduceLE, eD, eM, Nat.beq, reduceLT, reduceAdd, reduceSub, AV.nb, eA, Nat.beq, List.toArray, reduceAdd, reduceLT, reduceLeDiff, reduceToNat]
  (try unfold lim); repeat first | ((with_reducible refine And.intro ?_ ?_); (first | omega | exact ⟨by omega, by omega⟩ | rfl)) | intro _
  refine FunM.lend (mk1 n.inn (k + sumC (fun x : VCel => 2 + x.1.2.1.length + x.1.2.2.1.length + x.2.1.length) n.cells + sumC (fun x : VBox => 1 + sumC (fun x : List UInt8 => x.length) x.2.1) n.out) (by omega) (by omega)) ([(0, some 2)]) 0 (by simp only [eD, eM, Nat.beq, reduceLT, reduceAdd, reduceSub, AV.nb]) (by simp only [eD, eM, Nat.beq, reduceLT, reduceAdd, reduceSub, AV.nb]) (by simp only [eD, eM, Nat.beq, reduceLT, reduceAdd, reduceSub, AV.nb]) (by simp only [eD, eM, Nat.beq, reduceLT, reduceAdd, reduceSub, AV.nb]; exact leR_cln _ _ _ (cln_boxO _)) (by simp only [eD, eM, Nat.beq, reduceLT, reduceAdd, reduceSub, AV.nb]) (by simp only [eD, eM, Nat.beq, reduceLT, reduceAdd, reduceSub, AV.nb]) rfl ?_; simp only [hT, nneg, decide_true, decide_false, ↓If_lit, Int.reduceLT, Int.reduceLE, eD, eM, Nat.beq, reduceLT, reduceAdd, reduceSub, AV.nb, eA, Nat.beq, List.toArray, reduceAdd, reduceLT, reduceLeDiff, reduceToNat]
  (try unfold lim); repeat first | ((with_reducible refine And.intro ?_ ?_); (first | omega | exact ⟨by omega, by omega⟩ | rfl)) | intro _
  refine FunM.lend (mk2 n.outs (k + sumC (fun x : VCel => 2 + x.1.2.1.length + x.1.2.2.1.length + x.2.1.length) n.cells + sumC (fun x : VBox => 1 + sumC (fun x : List UInt8 => x.length) x.2.1) n.out + sumC (fun x : VBox => 1 + sumC (fun x : List UInt8 => x.length) x.2.1) n.inn) (by omega) (by omega)) ([(0, some 3)]) 0 (by simp only [eD, eM, Nat.beq, reduceLT, reduceAdd, reduceSub, AV.nb]) (by simp only [eD, eM, Nat.beq, reduceLT, reduceAdd, reduceSub, AV.nb]) (by simp only [eD, eM, Nat.beq, reduceLT, reduceAdd, reduceSub, AV.nb]) (by simp only [eD, eM, Nat.beq, reduceLT, reduceAdd, reduceSub, AV.nb]; exact leR_cln _ _ _ (cln_outE _)) (by simp only [eD, eM, Nat.beq, reduceLT, reduceAdd, reduceSub, AV.nb]) (by simp only [eD, eM, Nat.beq, reduceLT, reduceAdd, reduceSub, AV.nb]) rfl ?_; simp only [hT, nneg, decide_true, decide_false, ↓If_lit, Int.reduceLT, Int.reduceLE, eD, eM, Nat.beq, reduceLT, reduceAdd, reduceSub, AV.nb, eA, Nat.beq, List.toArray, reduceAdd, reduceLT, reduceLeDiff, reduceToNat]
  (try unfold lim); repeat first | ((with_reducible refine And.intro ?_ ?_); (first | omega | exact ⟨by omega, by omega⟩ | rfl)) | intro _
  refine FunM.lend (mk3 n.inns (k + sumC (fun x : VCel => 2 + x.1.2.1.length + x.1.2.2.1.length + x.2.1.length) n.cells + sumC (fun x : VBox => 1 + sumC (fun x : List UInt8 => x.length) x.2.1) n.out + sumC (fun x : VBox => 1 + sumC (fun x : List UInt8 => x.length) x.2.1) n.inn + sumC (fun _ : VOut => 4) n.outs) (by omega) (by omega)) ([(0, some 4)]) 0 (by simp only [eD, eM, Nat.beq, reduceLT, reduceAdd, reduceSub, AV.nb]) (by simp only [eD, eM, Nat.beq, reduceLT, reduceAdd, reduceSub, AV.nb]) (by simp only [eD, eM, Nat.beq, reduceLT, reduceAdd, reduceSub, AV.nb]) (by simp only [eD, eM, Nat.beq, reduceLT, reduceAdd, reduceSub, AV.nb]; exact leR_cln _ _ _ (cln_innE _)) (by simp only [eD, eM, Nat.beq, reduceLT, reduceAdd, reduceSub, AV.nb]) (by simp only [eD, eM, Nat.beq, reduceLT, reduceAdd, reduceSub, AV.nb]) rfl ?_; simp only [hT, nneg, decide_true, decide_false, ↓If_lit, Int.reduceLT, Int.reduceLE, eD, eM, Nat.beq, reduceLT, reduceAdd, reduceSub, AV.nb, eA, Nat.beq, List.toArray, reduceAdd, reduceLT, reduceLeDiff, reduceToNat]
  (try unfold lim); repeat first | ((with_reducible refine And.intro ?_ ?_); (first | omega | exact ⟨by omega, by omega⟩ | rfl)) | intro _
  refine FunM.lend (mk4 n.heard (k + sumC (fun x : VCel => 2 + x.1.2.1.length + x.1.2.2.1.length + x.2.1.length) n.cells + sumC (fun x : VBox => 1 + sumC (fun x : List UInt8 => x.length) x.2.1) n.out + sumC (fun x : VBox => 1 + sumC (fun x : List UInt8 => x.length) x.2.1) n.inn + sumC (fun _ : VOut => 4) n.outs + sumC (fun _ : VInn => 3) n.inns) (by omega) (by omega)) ([(0, some 5), (1, some 6)]) 0 (by simp only [eD, eM, Nat.beq, reduceLT, reduceAdd, reduceSub, AV.nb]) (by simp only [eD, eM, Nat.beq, reduceLT, reduceAdd, reduceSub, AV.nb]) (by simp only [eD, eM, Nat.beq, reduceLT, reduceAdd, reduceSub, AV.nb]) (by simp only [eD, eM, Nat.beq, reduceLT, reduceAdd, reduceSub, AV.nb]; exact ⟨leR_cln _ _ _ (cln_intE _), leR_cln _ _ _ (cln_intE _)⟩) (by simp only [eD, eM, Nat.beq, reduceLT, reduceAdd, reduceSub, AV.nb]) (by simp only [eD, eM, Nat.beq, reduceLT, reduceAdd, reduceSub, AV.nb]) rfl ?_; simp only [hT, nneg, decide_true, decide_false, ↓If_lit, Int.reduceLT, Int.reduceLE, eD, eM, Nat.beq, reduceLT, reduceAdd, reduceSub, AV.nb, eA, Nat.beq, List.toArray, reduceAdd, reduceLT, reduceLeDiff, reduceToNat]
  (try unfold lim); repeat first | ((with_reducible refine And.intro ?_ ?_); (first | omega | exact ⟨by omega, by omega⟩ | rfl)) | intro _
  first | done | trivial | rfl | exact ⟨rfl, rfl⟩ | exact ⟨rfl, rfl, trivial⟩
theorem TY_heldNodNode {P : Program} (hP : P = Tryz.prog) : (((fldT P 37 3 = some ((3, (false, 1)))) ∧ (tyT P 29 = some ((false, 1)))) ∧ ((fldT P 37 4 = some ((4, (false, 1)))) ∧ ((tyT P 30 = some ((false, 1))) ∧ (fldT P 37 5 = some ((5, (false, 1))))))) ∧ (((fldT P 37 6 = some ((6, (false, 1)))) ∧ ((tyT P 31 = some ((false, 1))) ∧ (fldT P 37 7 = some ((7, (false, 1)))))) ∧ ((tyT P 32 = some ((false, 1))) ∧ ((fldT P 37 8 = some ((8, (true, 2)))) ∧ (tyT P 35 = some ((true, 2)))))) := by subst hP; refine ⟨⟨⟨?_, ?_⟩, ⟨?_, ⟨?_, ?_⟩⟩⟩, ⟨⟨?_, ⟨?_, ?_⟩⟩, ⟨?_, ⟨?_, ?_⟩⟩⟩⟩ <;> kernel_rfl
theorem heldNodNode {P : Program} [Known P] (hP : P = Tryz.prog) (n : VNod) (k : Int) (h1 : 0 ≤ k) (h2 : k + nodT n ≤ 1000000000000) : Fun P 21 [.agg (nodS (mkNod k n)), .int .i64 k] (.int .i64 (k + nodT n)) := by
  refine fun_of (fn := Tryz.f21) (hP ▸ Tryz.func21) (by kernel_rfl) (by kernel_rfl) (by kernel_rfl) (by kernel_rfl) ?_
  have hT := TY_heldNodNode hP
  have mk0 := fun l k h1 h2 => heldCelCellS hP l k h1 h2
  have mk1 := fun l k h1 h2 => heldBoxBoxS hP l k h1 h2
  have mk2 := fun l k h1 h2 => heldOutOutS hP l k h1 h2
  have mk3 := fun l k h1 h2 => heldInInS hP l k h1 h2
  have mk4 := fun h k h1 h2 => heldHrdBook hP h k h1 h2
  clear hP
  intro hl
  clear hl
  have he : k + (nodT n : Int) = k + sumC (fun x : VCel => 2 + x.1.2.1.length + x.1.2.2.1.length + x.2.1.length) n.cells + sumC (fun x : VBox => 1 + sumC (fun x : List UInt8 => x.length) x.2.1) n.out + sumC (fun x : VBox => 1 + sumC (fun x : List UInt8 => x.length) x.2.1) n.inn + sumC (fun _ : VOut => 4) n.outs + sumC (fun _ : VInn => 3) n.inns + n.heard.1.length + n.heard.2.1.length := by unfold nodT; omega
  rw [he] at h2 ⊢
  simp only [nodS, mkNod, Tryz.f21, hT, eA, Nat.beq, List.toArray, reduceAdd, reduceLT, reduceLeDiff, reduceToNat]
  have g0 : decide (k + sumC (fun x : VCel => 2 + x.1.2.1.length + x.1.2.2.1.length + x.2.1.length) n.cells < 0) = false := decide_eq_false (by omega)
  refine Fun.plain (mk0 n.cells (k) (by omega) (by omega)) rfl rfl rfl rfl ?_
  simp only [hT, g0, ↓If_lit, eA, Nat.beq, List.toArray, reduceAdd, reduceLT, reduceLeDiff, reduceToNat]
  have g1 : decide (k + sumC (fun x : VCel => 2 + x.1.2.1.length + x.1.2.2.1.length + x.2.1.length) n.cells + sumC (fun x : VBox => 1 + sumC (fun x : List UInt8 => x.length) x.2.1) n.out < 0) = false := decide_eq_false (by omega)
  refine Fun.plain (mk1 n.out (k + sumC (fun x : VCel => 2 + x.1.2.1.length + x.1.2.2.1.length + x.2.1.length) n.cells) (by omega) (by omega)) rfl rfl rfl rfl ?_
  simp only [hT, g1, ↓If_lit, eA, Nat.beq, List.toArray, reduceAdd, reduceLT, reduceLeDiff, reduceToNat]
  have g2 : decide (k + sumC (fun x : VCel => 2 + x.1.2.1.length + x.1.2.2.1.length + x.2.1.length) n.cells + sumC (fun x : VBox => 1 + sumC (fun x : List UInt8 => x.length) x.2.1) n.out + sumC (fun x : VBox => 1 + sumC (fun x : List UInt8 => x.length) x.2.1) n.inn < 0) = false := decide_eq_false (by omega)
  refine Fun.plain (mk1 n.inn (k + sumC (fun x : VCel => 2 + x.1.2.1.length + x.1.2.2.1.length + x.2.1.length) n.cells + sumC (fun x : VBox => 1 + sumC (fun x : List UInt8 => x.length) x.2.1) n.out) (by omega) (by omega)) rfl rfl rfl rfl ?_
  simp only [hT, g2, ↓If_lit, eA, Nat.beq, List.toArray, reduceAdd, reduceLT, reduceLeDiff, reduceToNat]
  have g3 : decide (k + sumC (fun x : VCel => 2 + x.1.2.1.length + x.1.2.2.1.length + x.2.1.length) n.cells + sumC (fun x : VBox => 1 + sumC (fun x : List UInt8 => x.length) x.2.1) n.out + sumC (fun x : VBox => 1 + sumC (fun x : List UInt8 => x.length) x.2.1) n.inn + sumC (fun _ : VOut => 4) n.outs < 0) = false := decide_eq_false (by omega)
  refine Fun.plain (mk2 n.outs (k + sumC (fun x : VCel => 2 + x.1.2.1.length + x.1.2.2.1.length + x.2.1.length) n.cells + sumC (fun x : VBox => 1 + sumC (fun x : List UInt8 => x.length) x.2.1) n.out + sumC (fun x : VBox => 1 + sumC (fun x : List UInt8 => x.length) x.2.1) n.inn) (by omega) (by omega)) rfl rfl rfl rfl ?_
  simp only [hT, g3, ↓If_lit, eA, Nat.beq, List.toArray, reduceAdd, reduceLT, reduceLeDiff, reduceToNat]
  have g4 : decide (k + sumC (fun x : VCel => 2 + x.1.2.1.length + x.1.2.2.1.length + x.2.1.length) n.cells + sumC (fun x : VBox => 1 + sumC (fun x : List UInt8 => x.length) x.2.1) n.out + sumC (fun x : VBox => 1 + sumC (fun x : List UInt8 => x.length) x.2.1) n.inn + sumC (fun _ : VOut => 4) n.outs + sumC (fun _ : VInn => 3) n.inns < 0) = false := decide_eq_false (by omega)
  refine Fun.plain (mk3 n.inns (k + sumC (fun x : VCel => 2 + x.1.2.1.length + x.1.2.2.1.length + x.2.1.length) n.cells + sumC (fun x : VBox => 1 + sumC (fun x : List UInt8 => x.length) x.2.1) n.out + sumC (fun x : VBox => 1 + sumC (fun x : List UInt8 => x.length) x.2.1) n.inn + sumC (fun _ : VOut => 4) n.outs) (by omega) (by omega)) rfl rfl rfl rfl ?_
  simp only [hT, g4, ↓If_lit, eA, Nat.beq, List.toArray, reduceAdd, reduceLT, reduceLeDiff, reduceToNat]
  have g5 : decide (k + sumC (fun x : VCel => 2 + x.1.2.1.length + x.1.2.2.1.length + x.2.1.length) n.cells + sumC (fun x : VBox => 1 + sumC (fun x : List UInt8 => x.length) x.2.1) n.out + sumC (fun x : VBox => 1 + sumC (fun x : List UInt8 => x.length) x.2.1) n.inn + sumC (fun _ : VOut => 4) n.outs + sumC (fun _ : VInn => 3) n.inns + n.heard.1.length + n.heard.2.1.length < 0) = false := decide_eq_false (by omega)
  refine Fun.plain (mk4 n.heard (k + sumC (fun x : VCel => 2 + x.1.2.1.length + x.1.2.2.1.length + x.2.1.length) n.cells + sumC (fun x : VBox => 1 + sumC (fun x : List UInt8 => x.length) x.2.1) n.out + sumC (fun x : VBox => 1 + sumC (fun x : List UInt8 => x.length) x.2.1) n.inn + sumC (fun _ : VOut => 4) n.outs + sumC (fun _ : VInn => 3) n.inns) (by omega) (by omega)) rfl rfl rfl rfl ?_
  simp only [hT, g5, ↓If_lit, eA, Nat.beq, List.toArray, reduceAdd, reduceLT, reduceLeDiff, reduceToNat]
end Go.Proofs.YtjlmfcddbcoimaaGreat.C
