/- Engine, part 11e: structs and arrays written out. -/
import Derived.Test.YtnhcchmbdkiodaaGreatAvKd
set_option linter.unusedVariables false
set_option linter.unusedSimpArgs false
set_option autoImplicit false
namespace Go.Av
variable {P : Program} [Known P] {B : Base P} {o : Oper} {s : St} {a : Act} {w : World} {K : St → AV → Prop}

theorem wr_list : ∀ (vs : List Value) (c : Array Value) (o : Nat), o + vs.length ≤ c.size → (wr c o vs).toList = c.toList.take o ++ vs ++ c.toList.drop (o + vs.length) := by
  intro vs c o h
  apply List.ext_getElem?
  intro j
  rw [Array.getElem?_toList]
  by_cases h1 : j < o
  · rw [wr_out vs c o j (.inl h1), List.append_assoc, List.getElem?_append_left (by simp; omega), List.getElem?_take, if_pos h1, Array.getElem?_toList]
  · by_cases h2 : j < o + vs.length
    · have hv : vs[j - o]? = some (vs[j - o]'(by omega)) := List.getElem?_eq_getElem (by omega)
      have := wr_in vs c o (j - o) _ h hv
      rw [show o + (j - o) = j by omega] at this
      rw [this, List.append_assoc, List.getElem?_append_right (by simp; omega), List.getElem?_append_left (by simp; omega), ← hv]
      congr 1; simp; omega
    · rw [wr_out vs c o j (.inr (by omega)), List.getElem?_append_right (by simp; omega), List.getElem?_drop, Array.getElem?_toList]
      congr 1; simp; omega
theorem RepL.app {C : Cx} : ∀ (l l' : List AV) (us us' : List Value), RepL C l us (fun _ => 0) → RepL C l' us' (fun _ => 0) → RepL C (l ++ l') (us ++ us') (fun _ => 0)
  | [], l', us, us', h, h' => by obtain ⟨rfl, _⟩ := h; exact h'
  | x :: l, l', us, us', h, h' => by
    obtain ⟨v, vs, F1, F2, rfl, h1, h2, h3⟩ := h
    obtain ⟨rfl, rfl⟩ := zero_split h3
    exact ⟨v, vs ++ us', _, _, rfl, h1, RepL.app l l' vs us' h2 h', fun _ => rfl⟩

theorem bldW_sound {t : TypeId} {mu : Nat → Hdr} {F : Foot} (c : Core B s a w mu F) {place : Nat → Option (Nat × Nat)} (hp : ∀ i off n, plT P t i = some (off, n) → place i = some (off, n)) :
    ∀ (parts : List (Nat × Operand)) (z : List AV) (K' : List AV → Prop) (c0 : Array Value), (∀ p ∈ parts, okO p.2 = true) → RepL (cx B w mu F s.nx) z c0.toList (fun _ => 0) → bldW P s t parts z K' →
    ∃ z' c1, K' z' ∧ Instr.fill place c0 (parts.map fun p => (p.1, a.eval p.2)) = some c1 ∧ RepL (cx B w mu F s.nx) z' c1.toList (fun _ => 0)
  | [], z, K', c0, ho, hz, h => ⟨z, c0, h, rfl, hz⟩
  | (i, x) :: r, z, K', c0, ho, hz, h => by
    simp only [bldW] at h
    split at h
    · rename_i off n cl hpl hcl
      obtain ⟨h1, h2, h3⟩ := h
      have hx := cells_rep (c.ev x (ho (i, x) (by simp))) hcl
      have hvl : (a.eval x).cells.toList.length = n := by rw [RepL.length _ _ _ hx]; exact h1
      have hcs : c0.size = z.length := by have := RepL.length _ _ _ hz; simpa using this
      have hz' : RepL (cx B w mu F s.nx) (setC z off cl) (wr c0 off (a.eval x).cells.toList).toList (fun _ => 0) := by
        rw [wr_list _ _ _ (by omega), setC, hvl, h1]
        exact RepL.app _ _ _ _ (RepL.app _ _ _ _ (RepL.take _ _ _ hz) hx) (repL_drop _ _ _ hz)
      obtain ⟨z', c1, q1, q2, q3⟩ := bldW_sound c hp r _ K' _ (fun p hp => ho p (by simp [hp])) hz' h3
      refine ⟨z', c1, q1, ?_, q3⟩
      rw [List.map_cons, fill_step (hp _ _ _ hpl) (by simpa using hvl) (by omega)]
      exact q2
    · exact h.elim

theorem mapM_run {α β : Type} {P : Program} [Known P] {w : World} (f : α → Sem β) (g : α → β) : ∀ (l : List α) , (∀ x ∈ l, (f x).run P w = .ok (g x) w) → (l.mapM f).run P w = .ok (l.map g) w
  | [], h => by simp
  | x :: l, h => by
    rw [List.mapM_cons]
    simp only [Sem.run_bind, h x (by simp), Result.andThen_ok, mapM_run f g l (fun y hy => h y (by simp [hy])), Sem.run_pure, List.map_cons]
theorem info_size {P : Program} {t : TypeId} {i : TypeInfo} (h : P.info? t = some i) (w : World) : (sizeOf t).run P w = .ok i.size w := by
  simp [sizeOf, typeInfo, h]
theorem tyT_size {P : Program} {t : TypeId} {g : Bool} {n : Nat} (h : tyT P t = some (g, n)) : ∃ i, P.info? t = some i ∧ i.size = n := by
  unfold tyT at h
  split at h
  · split at h
    · rename_i i hi
      simp only [Option.some.injEq, Prod.mk.injEq] at h
      exact ⟨i, hi, h.2⟩
    · simp at h
  · simp at h
theorem y_build {t : TypeId} {parts : Array (Nat × Operand)} (e : o.op = .build t parts) (ho : ∀ p ∈ parts.toList, okO p.2 = true) (hr : Rel B s a w) (h : stp P (.build t parts) s K) : Yields P o a w (Out B a K) := by
  obtain ⟨mu, F, c⟩ := hr
  simp only [stp] at h
  split at h
  · rename_i z hz
    obtain ⟨hb, h⟩ := h
    obtain ⟨v, hrun, hv, hlen, hone⟩ := zeroT_run hz
    have hpm : (parts.map (fun (p : Nat × Operand) => (p.1, a.eval p.2))).toList = parts.toList.map fun p => (p.1, a.eval p.2) := by simp
    have fin : ∀ (z' : List AV) (c1 : Array Value), K s (.agg z') → RepL (cx B w mu F s.nx) z' c1.toList (fun _ => 0) → (execOp a.eval o).run P w = .ok (.value (.agg c1)) w → Yields P o a w (Out B a K) := fun z' c1 k1 k2 k3 =>
      y_val (v := .agg z') k3 c ⟨c1.toList, by simp, k2⟩ k1
    unfold bldT at hb
    split at hb
    · rename_i fs hu
      have hinfo : ∀ f ∈ fs.toList, (P.info? f.type).isSome = true := List.all_eq_true.1 hb
      let g : Field → Nat × Nat := fun f => (f.offset, ((P.info? f.type).map (·.size)).getD 0)
      have hmap : ∀ w : World, (fs.mapM (fun f => do pure (f.offset, ← sizeOf f.type) : Field → Sem (Nat × Nat))).run P w = .ok (fs.toList.map g).toArray w := fun w => by
        rw [Array.mapM_eq_mapM_toList]
        have := mapM_run (P := P) (w := w) (fun f => do pure (f.offset, ← sizeOf f.type) : Field → Sem (Nat × Nat)) g fs.toList (fun f hf => by
          obtain ⟨i, hi⟩ := Option.isSome_iff_exists.1 (hinfo f hf)
          simp [g, hi, info_size hi])
        show Sem.run P (List.mapM _ fs.toList >>= fun l => pure l.toArray) w = _
        rw [Sem.run_bind, this]
        rfl
      obtain ⟨z', c1, q1, q2, q3⟩ := bldW_sound c (t := t) (place := fun i => (fs.toList.map g).toArray[i]?) (fun i off n hpl => by
        unfold plT at hpl
        rw [hu] at hpl
        simp only at hpl
        split at hpl
        · rename_i f hf
          split at hpl
          · rename_i gg m ht
            obtain ⟨inf, hi, hs⟩ := tyT_size ht
            simp only [Option.some.injEq, Prod.mk.injEq] at hpl
            simp [hf, g, hi, hs, hpl]
          · simp at hpl
        · simp at hpl) parts.toList z _ v.cells ho (hv _) h
      refine fin z' c1 q1 q3 ?_
      simp only [execOp, e, Instr.build, hrun, Sem.run_bind, Result.andThen_ok, run_underlying hu, hmap, hpm, q2, Sem.run_pure]
    · rename_i n el hu
      obtain ⟨inf, hi⟩ := Option.isSome_iff_exists.1 hb
      obtain ⟨z', c1, q1, q2, q3⟩ := bldW_sound c (t := t) (place := fun i => some (i * inf.size, inf.size)) (fun i off n hpl => by
        unfold plT at hpl
        rw [hu] at hpl
        simp only at hpl
        split at hpl
        · rename_i gg m ht
          obtain ⟨inf', hi', hs⟩ := tyT_size ht
          rw [hi] at hi'
          simp only [Option.some.injEq, Prod.mk.injEq] at hpl hi'
          simp only [hi', hs, hpl.2, Option.some.injEq, Prod.mk.injEq, and_true]
          rw [← hpl.2]; exact hpl.1
        · simp at hpl) parts.toList z _ v.cells ho (hv _) h
      refine fin z' c1 q1 q3 ?_
      simp only [execOp, e, Instr.build, hrun, Sem.run_bind, Result.andThen_ok, run_underlying hu, info_size hi, hpm, q2, Sem.run_pure]
    · exact absurd hb (by simp)
  · exact h.elim
end Go.Av
