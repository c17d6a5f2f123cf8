/- Engine, part 11c: slices made, grown, copied, cut. -/
import Derived.Test.YtnhcchmbdkiodaaGreatAvKb
import Derived.Laws.Append
import Derived.Laws.MakeOwn
set_option linter.unusedVariables false
set_option linter.unusedSimpArgs false
set_option autoImplicit false
namespace Go.Av
variable {P : Program} [Known P] {B : Base P} {o : Oper} {s : St} {a : Act} {w : World} {K : St → AV → Prop}

/-! ### Rows as values -/
/-- The rows' values, wherever they are put. -/
structure RowV (C : Cx) (e : Nat) (rows : List (List AV)) (us : List Value) (F : Foot) : Prop where
  len : us.length = rows.length * e
  put : ∀ (c : Array Value) (off : Nat), (∀ j u, us[j]? = some u → c[off + j]? = some u) → RepO C e rows c off F
  one : ∀ u ∈ us, u.oneCell' = true
theorem RowV.nil (C : Cx) (e : Nat) : RowV C e [] [] (fun _ => 0) := ⟨by simp, fun _ _ _ => fun _ => rfl, by simp⟩
theorem RowV.cons {C : Cx} {e : Nat} {r : List AV} {rows : List (List AV)} {vs us : List Value} {F1 F2 F : Foot} (hr : RepL C r vs F1) (hl : r.length = e) (ho : ∀ v ∈ vs, v.oneCell' = true) (h : RowV C e rows us F2) (hF : ∀ b, F b = F1 b + F2 b) : RowV C e (r :: rows) (vs ++ us) F where
  len := by rw [List.length_append, RepL.length _ _ _ hr, h.len, List.length_cons, Nat.add_mul, Nat.one_mul]; omega
  put c off k := by
    have hvl := RepL.length _ _ _ hr
    refine ⟨F1, F2, hl, RepB.of_list r vs off F1 (fun j u hj => k j u ?_) ho hr, h.put c (off + e) (fun j u hj => ?_), hF⟩
    · rw [List.getElem?_append_left (List.getElem?_eq_some_iff.1 hj).1]; exact hj
    · rw [show off + e + j = off + (vs.length + j) by rw [hvl]; omega]
      refine k _ u ?_
      rw [List.getElem?_append_right (by omega)]
      simpa using hj
  one u hu := (List.mem_append.1 hu).elim (ho u) (h.one u)
theorem RepR.rowV {C : Cx} {e : Nat} : ∀ (l : List (List AV)) (a : Option Addr) (i : Nat), RepR C e l a i → ∃ us, RowV C e l us (fun _ => 0) ∧ ∀ ad, a = some ad → ∀ j u, us[j]? = some u → C.w.cell? (ad.add (i * e + j)) = some u
  | [], a, i, h => ⟨[], RowV.nil C e, fun ad _ j u hj => by simp at hj⟩
  | r :: l, a, i, h => by
    obtain ⟨⟨ad, ha, hl, hA⟩, h2⟩ := h
    obtain ⟨us, k1, k2⟩ := RepR.rowV l a (i + 1) h2
    obtain ⟨vs, m1, m2, m3, m4⟩ := RepA.vals r ad _ hA
    refine ⟨vs ++ us, RowV.cons m1 hl m4 k1 (fun b => by simp), fun ad' ha' j u hj => ?_⟩
    obtain rfl : ad = ad' := Option.some.inj (ha.symm.trans ha')
    by_cases hjl : j < vs.length
    · rw [List.getElem?_append_left hjl] at hj
      exact m3 j u hj
    · rw [List.getElem?_append_right (by omega)] at hj
      have := k2 ad ha (j - vs.length) u hj
      rwa [show (i + 1) * e + (j - vs.length) = i * e + j by rw [Nat.add_mul, Nat.one_mul]; omega] at this
theorem RepO.rowV {C : Cx} {e : Nat} {c : Array Value} : ∀ (l : List (List AV)) (off : Nat) (F : Foot), RepO C e l c off F → ∃ us, RowV C e l us F ∧ ∀ j u, us[j]? = some u → c[off + j]? = some u
  | [], off, F, h => ⟨[], ⟨by simp, fun _ _ _ => h, by simp⟩, fun j u hj => by simp at hj⟩
  | r :: l, off, F, h => by
    obtain ⟨F1, F2, hl, h1, h2, h3⟩ := h
    obtain ⟨us, k1, k2⟩ := RepO.rowV l (off + e) F2 h2
    obtain ⟨vs, m1, m2, m3, m4⟩ := RepB.to_list r off F1 h1
    refine ⟨vs ++ us, RowV.cons m1 hl m4 k1 h3, fun j u hj => ?_⟩
    by_cases hjl : j < vs.length
    · rw [List.getElem?_append_left hjl] at hj
      exact m3 j u hj
    · rw [List.getElem?_append_right (by omega)] at hj
      have := k2 (j - vs.length) u hj
      rwa [show off + e + (j - vs.length) = off + j by omega] at this
theorem RowV.mono {C C' : Cx} {e : Nat} {rows : List (List AV)} {us : List Value} {F : Foot} (hx : Ext C C') (hk : ∀ b, F b ≠ 0 → C'.w.heap[b]? = C.w.heap[b]?) (h : RowV C e rows us F) : RowV C' e rows us F :=
  ⟨h.len, fun c off k => (h.put c off k).mono hx _ _ _ _ _ hk, h.one⟩

/-! ### Making -/
theorem mkT_spec {P : Program} {t e by_ : Nat} {z : List AV} (h : mkT P t = some (e, by_, z)) : ∃ el i v, P.underlying t = some (.slice el) ∧ P.info? el = some i ∧ i.zero = some v ∧ i.size = e ∧ i.bytes = by_ ∧ e ≠ 0 ∧ by_ ≠ 0 ∧
    (∀ C : Cx, RepL C z v.cells.toList (fun _ => 0)) ∧ v.cells.size = e ∧ z.length = e ∧ (∀ u ∈ v.cells.toList, u.oneCell' = true) := by
  unfold mkT at h
  split at h
  · rename_i el hu
    split at h
    · rename_i i hi
      split at h
      · rename_i v hz
        split at h
        · rename_i l hl
          cases hok : okV 3 v && l.all AV.one && Nat.beq l.length i.size && !Nat.beq i.size 0 && !Nat.beq i.bytes 0 with
          | false => rw [hok] at h; simp at h
          | true =>
            rw [hok] at h
            obtain ⟨rfl, rfl, rfl⟩ : i.size = e ∧ i.bytes = by_ ∧ l.map AV.nb = z := by simpa using h
            simp only [Bool.and_eq_true, Bool.not_eq_true'] at hok
            obtain ⟨⟨⟨⟨h1, h2⟩, h3⟩, h4⟩, h5⟩ := hok
            have hr0 : ∀ C : Cx, RepL C l v.cells.toList (fun _ => 0) := fun C => cells_rep (C := C) (rep_ofVal 3 v h1) hl
            have h3' := Nat.eq_of_beq_eq_true h3
            have hlen := RepL.length _ _ _ (hr0 ⟨default, fun _ => False, fun _ => default, 0⟩)
            refine ⟨el, i, v, hu, hi, hz, rfl, rfl, fun h0 => by rw [h0] at h4; simp at h4, fun h0 => by rw [h0] at h5; simp at h5, fun C => nbL_rep _ _ _ (hr0 C), ?_, by simp [h3'], all_one_rep l _ _ (hr0 ⟨default, fun _ => False, fun _ => default, 0⟩) h2⟩
            have : v.cells.toList.length = i.size := by rw [hlen, h3']
            simpa using this
        · simp at h
      · simp at h
    · simp at h
  · simp at h
theorem rowV_replicate {C : Cx} {z : List AV} {vs : List Value} (hz : RepL C z vs (fun _ => 0)) (ho : ∀ v ∈ vs, v.oneCell' = true) : ∀ n : Nat, RowV C z.length (List.replicate n z) ((List.replicate n vs).flatten) (fun _ => 0)
  | 0 => by simpa using RowV.nil C z.length
  | n + 1 => by
    rw [List.replicate_succ, List.replicate_succ, List.flatten_cons]
    exact RowV.cons hz rfl ho (rowV_replicate hz ho n) (fun b => by simp)
theorem flatten_get {vs : List Value} {e : Nat} (hv : vs.length = e) (he : e ≠ 0) : ∀ (n j : Nat) (u : Value), ((List.replicate n vs).flatten)[j]? = some u → j < n * e ∧ vs[j % e]? = some u
  | 0, j, u, h => by simp at h
  | n + 1, j, u, h => by
    rw [List.replicate_succ, List.flatten_cons] at h
    by_cases hj : j < vs.length
    · rw [List.getElem?_append_left hj] at h
      rw [Nat.mod_eq_of_lt (by omega), Nat.add_mul]
      exact ⟨by omega, h⟩
    · rw [List.getElem?_append_right (by omega)] at h
      obtain ⟨h1, h2⟩ := flatten_get hv he n _ u h
      rw [hv] at h1 h2
      refine ⟨by rw [Nat.add_mul]; omega, ?_⟩
      rw [← h2]
      congr 1
      rw [Nat.mod_eq_sub_mod (show e ≤ j by omega)]
theorem range_get {z : Array Value} {n j : Nat} {u : Value} (hj : j < n) (h : z[j % z.size]? = some u) : ((Array.range n).map (fun i => z[i % z.size]!))[j]? = some u := by
  rw [Array.getElem?_map]
  have : (Array.range n)[j]? = some j := by simp [Array.getElem?_range, hj]
  rw [this, Option.map_some]
  rw [getElem!_def, h]
theorem y_makeSlice {t : TypeId} {n q : Operand} (e : o.op = .makeSlice t n q) (hn0 : okO n = true) (hq0 : okO q = true) (hr : Rel B s a w) (h : stp P (.makeSlice t n q) s K) : Yields P o a w (Out B a K) := by
  obtain ⟨mu, F, c⟩ := hr
  simp only [stp] at h
  have hn := c.ev n hn0
  have hq := c.ev q hq0
  split at h
  · rename_i sz by_ z l m h1 h2 h3
    rw [h2] at hn
    rw [h3] at hq
    obtain ⟨k1, k2, k3, hK⟩ := h
    obtain ⟨el, i, v, hu, hi, hz, rfl, rfl, hne, hbe, hr0, hcs, hzl, hone⟩ := mkT_spec h1
    obtain ⟨hn, hnw, _⟩ := hn
    obtain ⟨hq, hqw, _⟩ := hq
    have hb1 : (1 : Int) ≤ i.bytes := by omega
    have hm : m ≤ m * i.bytes := by
      have := Int.mul_le_mul_of_nonneg_left hb1 (show 0 ≤ m by omega)
      rwa [Int.mul_one] at this
    let cells : Array Value := madeCells v.cells (m.toNat * i.size)
    have hrun : (execOp a.eval o).run P w = .ok (.value (.slice (some ⟨w.heap.size, 0, none⟩) l.toNat m.toNat)) (w.alloc (.cells cells el)) := by
      simp only [execOp, e, hn, hq, Sem.run_bind, run_make w t el i v hu hi hz .i64 .i64 l m k1 k2 (by rw [Int.mul_comm]; omega) (by omega), Result.andThen_ok, Sem.run_pure]
      rfl
    have hRV := rowV_replicate (hr0 (cx B w mu F s.nx).pu) hone l.toNat
    rw [hzl] at hRV
    have hvl : v.cells.toList.length = i.size := by simpa using hcs
    have hO := hRV.put cells 0 (fun j u hj => by
      obtain ⟨g1, g2⟩ := flatten_get hvl hne _ _ _ hj
      rw [Nat.zero_add]
      have hle : l.toNat * i.size ≤ m.toNat * i.size := Nat.mul_le_mul_right _ (by omega)
      refine range_get (by omega) ?_
      rw [hcs]
      simpa using g2)
    obtain ⟨F', c'⟩ := c.new (t := el) (d := z) (cap := m.toNat) (g := false) (FR := fun _ => 0) (h' := s.hp) (Fh := F) hO c.hp (fun b => by simp) (by rw [List.length_replicate]; omega) (by rw [List.length_replicate]; unfold lim; omega) (by simp only [cells]; rw [size_madeCells])
    refine yields_of hrun ⟨_, _, hK, _, F', c', by simp [cx], ?_, fun _ => rfl⟩
    simp [cx, updMu]
  · exact h.elim

/-! ### Growing -/
theorem first_run {P : Program} {w : World} {us : List Value} {A : Option Addr} {n m cap e : Nat} (hl : us.length = n * e) (h : ∀ ad, A = some ad → ∀ j u, us[j]? = some u → w.cell? (ad.add j) = some u) (hn : A = none → us = []) :
    (Builtin.firstCells e n (.slice A m cap)).run P w = .ok us.toArray w := by
  cases A with
  | none => rw [hn rfl]; simp [Builtin.firstCells]
  | some ad =>
    simp only [Builtin.firstCells]
    rw [← hl]
    exact run_loadCells_list w ad us (h ad rfl)
theorem take_len {us : List Value} {n k e : Nat} (h : us.length = n * e) (hk : k ≤ n) : (us.take (k * e)).length = k * e := by
  rw [List.length_take, h]; exact Nat.min_eq_left (Nat.mul_le_mul_right _ hk)
theorem take_get {us : List Value} {n j : Nat} {u : Value} (h : (us.take n)[j]? = some u) : us[j]? = some u := by
  rw [List.getElem?_take] at h
  split at h
  · exact h
  · cases h
theorem src_sound {e : Nat} {y : Operand} {h0 : Hp} {F0 F : Foot} {mu : Nat → Hdr} {K' : List (List AV) → Hp → Prop} (c : Core B s a w mu F) (hy0 : okO y = true) (hh : RepH (cx B w mu F s.nx) h0 F0) (h : srcW s e (s.ev y) h0 K') :
    ∃ (rows : List (List AV)) (h' : Hp) (us : List Value) (Fs Fh : Foot), K' rows h' ∧ rows.length ≤ lim ∧ RowV (cx B w mu F s.nx).pu e rows us Fs ∧ RepH (cx B w mu F s.nx) h' Fh ∧ (∀ b, Fs b + Fh b ≤ F0 b) ∧
      (Builtin.lenOf (a.eval y)).run P w = .ok rows.length w ∧ (∀ (w' : World) (k : Nat), w'.heap = w.heap → k ≤ rows.length → (Builtin.firstCells e k (a.eval y)).run P w' = .ok (us.take (k * e)).toArray w') := by
  have hcell : ∀ (w' : World) (A : Addr), w'.heap = w.heap → w'.cell? A = w.cell? A := fun w' A hw => by unfold World.cell?; rw [hw]
  have hy := c.ev y hy0
  unfold srcW at h
  split at h
  · rename_i hv
    rw [hv] at hy
    exact ⟨[], h0, [], fun _ => 0, F0, h, by simp, RowV.nil _ _, hh, fun b => by simp, by rw [hy.1]; rfl, fun w' k hw hk => by rw [hy.1]; simp [Builtin.firstCells]⟩
  · rename_i e' rows d hv
    obtain ⟨rfl, h⟩ := h
    rw [hv] at hy
    obtain ⟨⟨A, cap, hyv, k1, k2, k3⟩, _⟩ := hy
    obtain ⟨us, m1, m2⟩ := RepR.rowV rows A 0 k3
    refine ⟨rows, h0, us, fun _ => 0, F0, h k2, k2, m1, hh, fun b => by simp, by rw [hyv]; rfl, ?_⟩
    intro w' k hw hk
    rw [hyv]
    refine first_run (take_len m1.len hk) (fun ad ha j u hj => by have := m2 ad ha j u (take_get hj); rw [hcell w' _ hw]; rwa [Nat.zero_mul, Nat.zero_add] at this) (fun hA => ?_)
    cases rows with
    | nil => rw [List.eq_nil_of_length_eq_zero (show us.length = 0 by rw [m1.len]; simp)]; simp
    | cons r rows => obtain ⟨⟨ad, ha, _⟩, _⟩ := k3; rw [hA] at ha; cases ha
  · rename_i i_o hv
    split at h
    · rename_i ob hob
      obtain ⟨rfl, hg, h⟩ := h
      rw [hv] at hy
      obtain ⟨hlt, hyv, _⟩ := hy
      obtain ⟨G1, G2, m1, m2, m3⟩ := RepH.take h0 F0 _ ob hh hob
      have hl := m1.len
      rcases m1.2 with ⟨q1, q2, q3, q4, q5⟩ | ⟨b, cc, t, FR, q1, q2, q3, q4, q5, q6, q7, q8, q9⟩
      · refine ⟨ob.rows, _, [], G1, G2, h hl.2, hl.2, ⟨by rw [q4]; simp, fun c off _ => ?_, by simp⟩, m2, fun b => by rw [m3 b]; exact Nat.le_refl _, ?_, ?_⟩
        · rw [q4]; exact q5
        · rw [hyv, q4]; simp [Builtin.lenOf, q2]
        · intro w' k hw hk; rw [hyv, q1]; simp [Builtin.firstCells]
      · rw [hg] at q8
        obtain ⟨us, r1, r2⟩ := RepO.rowV _ _ _ q8
        refine ⟨ob.rows, _, us, FR, G2, h hl.2, hl.2, r1, m2, fun x => by have := m3 x; have := q9 x; omega, ?_, ?_⟩
        · rw [hyv, q2]; rfl
        · intro w' k hw hk
          rw [hyv, q1, q2]
          exact first_run (take_len r1.len hk) (fun ad ha j u hj => by
            rw [hcell w' _ hw]
            replace hj := take_get hj
            simp only [Option.map_some, Option.some.injEq] at ha
            subst ha
            rw [add_none, Nat.zero_add, cell_heap (show w.heap[b]? = _ from q6)]
            have := r2 j u hj
            rwa [Nat.zero_add] at this) (fun hA => by simp at hA)
    · exact h.elim
  · exact h.elim

theorem RowV.append {C : Cx} {e : Nat} {r1 r2 : List (List AV)} {u1 u2 : List Value} {F1 F2 F : Foot} (h1 : RowV C e r1 u1 F1) (h2 : RowV C e r2 u2 F2) (hF : ∀ b, F b = F1 b + F2 b) : RowV C e (r1 ++ r2) (u1 ++ u2) F where
  len := by rw [List.length_append, List.length_append, h1.len, h2.len, Nat.add_mul]
  put c off k := (RepO.append _ _ _ _).2 ⟨F1, F2, h1.put c off (fun j u hj => k j u (by rw [List.getElem?_append_left (List.getElem?_eq_some_iff.1 hj).1]; exact hj)),
    h2.put c _ (fun j u hj => by
      rw [Nat.add_assoc, ← h1.len]
      exact k _ u (by rw [List.getElem?_append_right (by omega)]; simpa using hj)), hF⟩
  one u hu := (List.mem_append.1 hu).elim (h1.one u) (h2.one u)
theorem Core.drew {s : St} {mu : Nat → Hdr} {F : Foot} (c : Core B s a w mu F) : Core B s a w.drew mu F :=
  c.step (s' := s) ⟨rfl, rfl, rfl, Nat.le_refl _, fun _ _ _ => rfl, fun _ _ h => h, c.one, fun b hb => (c.blk b hb).1⟩ (Nat.le_refl _) (fun _ _ => rfl) rfl
    (RepH.mono (C := cx B w mu F s.nx) (C' := cx B w.drew mu F s.nx) ⟨fun b hb => hb, fun _ _ => rfl, Nat.le_refl _, fun _ _ => rfl⟩ _ _ c.hp (fun _ _ => rfl))
theorem drew_ext {mu : Nat → Hdr} {F : Foot} {n : Nat} : Ext (cx B w mu F n) (cx B w.drew mu F n) := ⟨fun b hb => hb, fun _ _ => rfl, Nat.le_refl _, fun _ _ => rfl⟩
section
variable {t t' ty el el' : TypeId} {i : TypeInfo} {z : Value} {y : Value} {n : Nat} {us : List Value}
/-- Appending where there is room. -/
theorem append_room {P : Program} (ht : P.underlying t = some (.slice el)) (ht' : P.underlying t' = some (.slice el')) (hi : P.info? el = some i) (hlen : (Builtin.lenOf y).run P w = .ok n w) (hfirst : (Builtin.firstCells i.size n y).run P w = .ok us.toArray w)
    {b sl cap : Nat} {c : Array Value} {bt : TypeId} (hb : w.heap[b]? = some (.cells c bt (0, 0))) (hfit : sl * i.size + us.length ≤ c.size) (hone : ∀ u ∈ us, u.oneCell' = true) (hroom : sl + n ≤ cap) :
    (Builtin.append_ #[t, t'] ty #[.slice (some ⟨b, 0, none⟩) sl cap, y]).run P w = .ok (.slice (some ⟨b, 0, none⟩) (sl + n) cap) (w.setCells b (sl * i.size) us) := by
  have hs := storeCells_run (P := P) (w := w) (b := b) (o := sl * i.size) (vs := us) hb hfit hone
  have ha : (⟨b, 0, none⟩ : Addr).add (sl * i.size) = ⟨b, sl * i.size, none⟩ := by rw [add_none, Nat.zero_add]
  simp [Builtin.append_, run_underlying ht, run_underlying ht', sizeOf, typeInfo, hi, hlen, hroom, hfirst, ha, hs]
/-- Appending nothing to nil. -/
theorem append_none {P : Program} (ht : P.underlying t = some (.slice el)) (ht' : P.underlying t' = some (.slice el')) (hi : P.info? el = some i) (hlen : (Builtin.lenOf y).run P w = .ok 0 w) (hfirst : (Builtin.firstCells i.size 0 y).run P w = .ok us.toArray w) :
    (Builtin.append_ #[t, t'] ty #[.slice none 0 0, y]).run P w = .ok (.slice none 0 0) w := by
  simp [Builtin.append_, run_underlying ht, run_underlying ht', sizeOf, typeInfo, hi, hlen, hfirst]
/-- Appending into new memory. -/
theorem append_grow {P : Program} (ht : P.underlying t = some (.slice el)) (ht' : P.underlying t' = some (.slice el')) (hi : P.info? el = some i) (hz : i.zero = some z) (hlen : (Builtin.lenOf y).run P w = .ok n w) (hfirst : (Builtin.firstCells i.size n y).run P w = .ok us.toArray w)
    (hfirst' : ∀ w', w'.heap = w.heap → (Builtin.firstCells i.size n y).run P w' = .ok us.toArray w')
    {A : Option Addr} {sl cap : Nat} {olds : List Value} (hold : ∀ w', w'.heap = w.heap → (Builtin.firstCells i.size sl (.slice A sl cap)).run P w' = .ok olds.toArray w') (hroom : cap < sl + n) (hby : (sl + n) * i.bytes ≤ 140737488355328) (hbz : i.bytes ≠ 0) :
    ∃ nc, sl + n ≤ nc ∧ (Builtin.append_ #[t, t'] ty #[.slice A sl cap, y]).run P w = .ok (.slice (some ⟨w.heap.size, 0, none⟩) (sl + n) nc) (w.drew.alloc (.cells (olds.toArray ++ us.toArray ++ Builtin.zeroCells z.cells (nc - (sl + n))) el)) := by
  have h1 : ¬ (sl + n ≤ cap) := by omega
  have h3 : ¬ (281474976710656 < Builtin.nextslicecap (sl + n) cap * i.bytes) := by have := growslice_fits (old := cap) hroom hby; omega
  let nc := Question.cut (.appendCap (sl + n) cap el) (w.tape w.drawn (.appendCap (sl + n) cap el))
  refine ⟨nc, by simp only [nc, Question.cut]; omega, ?_⟩
  have hw : w.drew.heap = w.heap := rfl
  have hf := hfirst' w.drew hw
  have ho := hold w.drew hw
  have hd : ({ w with drawn := w.drawn + 1 } : World) = w.drew := rfl
  simp [Builtin.append_, run_underlying ht, run_underlying ht', sizeOf, typeInfo, hi, hlen, h1, hbz, h3, Question.forced, hd, ho, hf, zeroValue, hz, newRow, nc]
  rw [← Array.append_assoc]; simp
end
theorem RepH.at_ {C : Cx} {h : Hp} {F : Foot} {o : Nat} {ob : Ob} (hH : RepH C h F) (hg : geth h o = some ob) : ∃ F1 F2 : Foot, RepOb C o ob F1 ∧ RepH C (remh h o) F2 ∧ ∀ b, F b = F1 b + F2 b := RepH.take h F o ob hH hg
theorem zeroCells_size (z : Array Value) (n : Nat) : (Builtin.zeroCells z n).size = n * z.size := by simp [Builtin.zeroCells]

theorem heap_drew (w : World) : w.drew.heap = w.heap := rfl
/-- New memory for rows that are known. -/
theorem Core.grow {s : St} {mu : Nat → Hdr} {F : Foot} (c : Core B s a w mu F) {rows : List (List AV)} {us : List Value} {e by_ : Nat} {zz : List AV} {zv : Array Value} {FR Fh : Foot} {h' : Hp} {nc : Nat} {t : TypeId} (hrv : RowV (cx B w mu F s.nx).pu e rows us FR) (hh : RepH (cx B w mu F s.nx) h' Fh)
    (hs : ∀ b, FR b + Fh b ≤ F b) (hnc : rows.length ≤ nc) (hl : rows.length ≤ lim) (hz : zv.size = e) :
    RelV B ⟨s.tm, (s.nx, ⟨e, rows, zz, false⟩) :: h', s.nx + 1⟩ a (w.drew.alloc (.cells (us.toArray ++ Builtin.zeroCells zv (nc - rows.length)) t)) (.os s.nx) (.slice (some ⟨w.heap.size, 0, none⟩) rows.length nc) := by
  have hO := (hrv.mono (drew_ext (B := B) (w := w) (mu := mu) (F := F) (n := s.nx)).pu (fun _ _ => rfl)).put (us.toArray ++ Builtin.zeroCells zv (nc - rows.length)) 0 (fun j u hj => by
    rw [Nat.zero_add, Array.getElem?_append_left (by simpa using (List.getElem?_eq_some_iff.1 hj).1)]
    simpa using hj)
  obtain ⟨F', c'⟩ := c.drew.new (t := t) (d := zz) (cap := nc) (g := false) hO (RepH.mono drew_ext _ _ hh (fun _ _ => rfl)) hs hnc hl (by
    rw [Array.size_append, zeroCells_size, hz, List.size_toArray, hrv.len, ← Nat.add_mul]
    congr 1; omega)
  exact ⟨_, F', c', by simp [cx], by simp [cx, updMu, heap_drew], fun _ => rfl⟩
theorem y_append {cl : Call} (e : o.op = .call cl) (hcal : cl.callee = .builtin .append) (hargs0 : cl.args.toList.all okO = true) (hr : Rel B s a w) (h : stp P (.call cl) s K) : Yields P o a w (Out B a K) := by
  obtain ⟨mu, F, c⟩ := hr
  simp only [stp, hcal] at h
  split at h
  · rename_i x y t t' hargs hty
    have ha : cl.args = #[x, y] := by rw [← Array.toList_inj]; exact hargs
    have hT : cl.argTypes = #[t, t'] := by rw [← Array.toList_inj]; exact hty
    rw [hargs] at hargs0
    simp only [List.all_cons, List.all_nil, Bool.and_true, Bool.and_eq_true] at hargs0
    have hx := c.ev x hargs0.1
    split at h
    · rename_i sz by_ z hm hk hv
      rw [hv] at hx
      obtain ⟨el, i, v, hu, hi, hz, rfl, rfl, hne, hbe, hr0, hcs, hzl, hone⟩ := mkT_spec hm
      obtain ⟨el', hu'⟩ := lkT_slice hk
      obtain ⟨rows, h', us, Fs, Fh, hK, hlim, hrv, hh, hF, hlen, hfirst0⟩ := src_sound c hargs0.2 c.hp h
      have hfirst : ∀ w' : World, w'.heap = w.heap → (Builtin.firstCells i.size rows.length (a.eval y)).run P w' = .ok us.toArray w' := fun w' hw => by
        have := hfirst0 w' rows.length hw (Nat.le_refl _)
        rwa [List.take_of_length_le (by rw [hrv.len]; exact Nat.le_refl _)] at this
      obtain ⟨hby, hK⟩ := hK
      have hex : ∀ r w', (Builtin.append_ #[t, t'] o.type #[.slice none 0 0, a.eval y]).run P w = .ok r w' → (execOp a.eval o).run P w = .ok (.value r) w' := fun r w' hrun => by
        simp [execOp, e, resolve, hcal, ha, hT, invoke, builtin, hx.1, hrun]
      by_cases h0 : rows = []
      · subst h0
        have hus : us = [] := List.eq_nil_of_length_eq_zero (by rw [hrv.len]; simp)
        refine yields_of (hex _ _ (append_none hu hu' hi hlen (hfirst w rfl))) ?_
        refine ⟨_, _, hK, updMu mu s.nx ⟨none, 0, 0, i.size⟩, fun b => 0 + Fh b, ?_, by simp [cx], by simp [cx, updMu], fun _ => rfl⟩
        have st : Stp w w F (fun b => 0 + Fh b) := ⟨rfl, rfl, rfl, Nat.le_refl _, fun _ _ _ => rfl, fun b _ h => by have := hF b; show 0 + Fh b = 0; omega, fun b => by have := hF b; have := c.one b; show 0 + Fh b ≤ 1; omega, fun b hb => (c.blk b (by have := hF b; have h2 : 0 + Fh b ≠ 0 := hb; omega)).1⟩
        have hm' : ∀ o, o < s.nx → updMu mu s.nx ⟨none, 0, 0, i.size⟩ o = mu o := fun o ho => by unfold updMu; rw [if_neg (by omega)]
        refine c.step (s' := ⟨s.tm, _, _⟩) st (by simp) hm' rfl ⟨fun _ => 0, Fh, ⟨by simp [cx], .inl ⟨by simp [cx, updMu], by simp [cx, updMu], by simp [cx, updMu], rfl, fun _ => rfl⟩⟩, RepH.mono (st.ext (by simp) hm') _ _ hh (fun _ _ => rfl), fun _ => rfl⟩
      · have hpos : 0 < rows.length := List.length_pos_iff.2 h0
        obtain ⟨nc, hnc, hrun⟩ := append_grow (t := t) (t' := t') (ty := o.type) (A := none) (sl := 0) (cap := 0) (olds := []) hu hu' hi hz hlen (hfirst w rfl) hfirst (fun w' _ => by simp [Builtin.firstCells]) (by omega) (by rw [Nat.zero_add]; exact hby) hbe
        rw [Nat.zero_add] at hrun hnc
        refine yields_of (hex _ _ hrun) ⟨_, _, hK, ?_⟩
        have := c.grow (zz := z) (t := el) (by_ := i.bytes) hrv hh hF hnc hlim hcs
        simpa using this
    · rename_i sz by_ z i_o hm hk hv
      rw [hv] at hx
      obtain ⟨el, i, v, hu, hi, hz, rfl, rfl, hne, hbe, hr0, hcs, hzl, hone⟩ := mkT_spec hm
      obtain ⟨el', hu'⟩ := lkT_slice hk
      split at h
      · rename_i ob hob
        obtain ⟨hoe, hg, h⟩ := h
        obtain ⟨G1, G2, m1, m2, m3⟩ := c.hp.at_ hob
        obtain ⟨rows, h', us, Fs, Fh, hK, hlim, hrv, hh, hF, hlen, hfirst0⟩ := src_sound c hargs0.2 m2 h
        have hfirst : ∀ w' : World, w'.heap = w.heap → (Builtin.firstCells i.size rows.length (a.eval y)).run P w' = .ok us.toArray w' := fun w' hw => by
          have := hfirst0 w' rows.length hw (Nat.le_refl _)
          rwa [List.take_of_length_le (by rw [hrv.len]; exact Nat.le_refl _)] at this
        obtain ⟨hby, hK⟩ := hK
        obtain ⟨hlt, hxv, _⟩ := hx
        have hex : ∀ r w', (Builtin.append_ #[t, t'] o.type #[a.eval x, a.eval y]).run P w = .ok r w' → (execOp a.eval o).run P w = .ok (.value r) w' := fun r w' hrun => by
          simp [execOp, e, resolve, hcal, ha, hT, invoke, builtin, hrun]
        have hlim2 : ob.rows.length + rows.length ≤ lim := by
          have : (ob.rows.length + rows.length) * 1 ≤ (ob.rows.length + rows.length) * i.bytes := Nat.mul_le_mul_left _ (by omega)
          unfold lim; omega
        rcases m1.2 with ⟨q1, q2, q3, q4, q5⟩ | ⟨b, cc, bt, FR, q1, q2, q3, q4, q5, q6, q7, q8, q9⟩
        · have hxv' : a.eval x = .slice none 0 0 := by rw [hxv, q1, q2, q3]; rfl
          rw [hxv'] at hex
          have hFs : ∀ x, Fs x + Fh x ≤ F x := fun x => by have := m3 x; have := hF x; omega
          by_cases h0 : rows = []
          · subst h0
            refine yields_of (hex _ _ (append_none hu hu' hi hlen (hfirst w rfl))) ?_
            rw [q4, List.nil_append] at hK
            refine ⟨_, _, hK, updMu mu s.nx ⟨none, 0, 0, i.size⟩, fun b => 0 + Fh b, ?_, by simp [cx], by simp [cx, updMu], fun _ => rfl⟩
            have st : Stp w w F (fun b => 0 + Fh b) := ⟨rfl, rfl, rfl, Nat.le_refl _, fun _ _ _ => rfl, fun b _ h => by have := hFs b; show 0 + Fh b = 0; omega, fun b => by have := hFs b; have := c.one b; show 0 + Fh b ≤ 1; omega, fun b hb => (c.blk b (by have := hFs b; have h2 : 0 + Fh b ≠ 0 := hb; omega)).1⟩
            have hm' : ∀ o, o < s.nx → updMu mu s.nx ⟨none, 0, 0, i.size⟩ o = mu o := fun o ho => by unfold updMu; rw [if_neg (by omega)]
            refine c.step (s' := ⟨s.tm, _, _⟩) st (by simp) hm' rfl ⟨fun _ => 0, Fh, ⟨by simp [cx], .inl ⟨by simp [cx, updMu], by simp [cx, updMu], by simp [cx, updMu], rfl, fun _ => rfl⟩⟩, RepH.mono (st.ext (by simp) hm') _ _ hh (fun _ _ => rfl), fun _ => rfl⟩
          · have hpos : 0 < rows.length := List.length_pos_iff.2 h0
            obtain ⟨nc, hnc, hrun⟩ := append_grow (t := t) (t' := t') (ty := o.type) (A := none) (sl := 0) (cap := 0) (olds := []) hu hu' hi hz hlen (hfirst w rfl) hfirst (fun w' _ => by simp [Builtin.firstCells]) (by omega) (by rw [q4] at hby; simpa using hby) hbe
            rw [Nat.zero_add] at hrun hnc
            refine yields_of (hex _ _ hrun) ⟨_, _, hK, ?_⟩
            rw [q4, List.nil_append]
            have := c.grow (zz := z) (t := el) (by_ := i.bytes) hrv hh hFs hnc hlim hcs
            simpa using this
        · rw [hg] at q8
          rw [hoe] at q3 q7 q8
          have q1' : (mu i_o).b = some b := q1
          have q2' : (mu i_o).len = ob.rows.length := q2
          have hxv' : a.eval x = .slice (some ⟨b, 0, none⟩) ob.rows.length (mu i_o).cap := by rw [hxv, q1, q2]; rfl
          rw [hxv'] at hex
          obtain ⟨olds, o1, o2⟩ := RepO.rowV _ _ _ q8
          have happ := RowV.append o1 hrv (F := fun x => FR x + Fs x) (fun _ => rfl)
          by_cases hroom : ob.rows.length + rows.length ≤ (mu i_o).cap
          · have hfit : ob.rows.length * i.size + us.length ≤ cc.size := by
              rw [q7, hrv.len, ← Nat.add_mul]; exact Nat.mul_le_mul_right _ hroom
            have hrun := append_room (t := t) (t' := t') (ty := o.type) hu hu' hi hlen (hfirst w rfl) (cap := (mu i_o).cap) (show w.heap[b]? = _ from q6) hfit hrv.one hroom
            refine yields_of (hex _ _ hrun) ⟨_, _, hK, ?_⟩
            let F' : Foot := fun y => ((if y = b then 1 else 0) + (FR y + Fs y)) + Fh y
            have hF' : ∀ y, F' y ≤ F y := fun y => by have := m3 y; have := hF y; have := q9 y; simp only [F']; omega
            have hFb : F b ≠ 0 := by have := hF' b; simp [F'] at this; omega
            have st : Stp w (w.setCells b (ob.rows.length * i.size) us) F F' := stp_write b _ us hFb hF' c.one (fun y hy => (c.blk y hy).1)
            let mu' := updMu mu s.nx ⟨some b, ob.rows.length + rows.length, (mu i_o).cap, i.size⟩
            have hm' : ∀ o, o < s.nx → mu' o = mu o := fun o ho => by simp only [mu', updMu]; rw [if_neg (by omega)]
            have hx' := st.ext (B := B) (mu := mu) (mu' := mu') (n := s.nx) (n' := s.nx + 1) (by omega) hm'
            have hoth : ∀ y, y ≠ b → (w.setCells b (ob.rows.length * i.size) us).heap[y]? = w.heap[y]? := fun y hy => setCells_other _ _ _ _ _ hy
            have hbone : ∀ y, FR y + Fs y + Fh y ≠ 0 → y ≠ b := fun y hy e => by
              subst e
              have h8 := c.one y; have := hF' y; simp [F'] at this; omega
            have happ' := (happ.mono hx'.pu (fun y hy => hoth y (hbone y (by omega)))).put (wr cc (ob.rows.length * i.size) us) 0 (fun j u hj => by
              rw [Nat.zero_add]
              by_cases hjl : j < olds.length
              · rw [List.getElem?_append_left hjl] at hj
                rw [wr_out _ _ _ _ (by rw [o1.len] at hjl; omega)]
                have := o2 j u hj; rwa [Nat.zero_add] at this
              · rw [List.getElem?_append_right (by omega)] at hj
                have := wr_in us cc (ob.rows.length * i.size) (j - olds.length) u hfit hj
                rwa [show ob.rows.length * i.size + (j - olds.length) = j by rw [o1.len] at hjl ⊢; omega] at this)
            refine ⟨mu', F', c.step (s' := ⟨s.tm, _, s.nx + 1⟩) st (Nat.le_succ _) hm' rfl ⟨fun y => (if y = b then 1 else 0) + (FR y + Fs y), Fh, ⟨by simp [cx], .inr ⟨b, wr cc (ob.rows.length * i.size) us, bt, fun y => FR y + Fs y, by simp [cx, mu', updMu], by simp [cx, mu', updMu], by simp [cx, mu', updMu], by simpa [cx, mu', updMu] using hroom, by simpa using hlim2, setCells_heap _ _ _ _ _ _ _ q6, by rw [wr_size]; simp [cx, mu', updMu]; exact q7, happ', fun _ => rfl⟩⟩, RepH.mono hx' _ _ hh (fun y hy => hoth y (hbone y (by omega))), fun _ => rfl⟩, by simp [cx], by simp [cx, mu', updMu], fun _ => rfl⟩
          · obtain ⟨nc, hnc, hrun⟩ := append_grow (t := t) (t' := t') (ty := o.type) (A := some ⟨b, 0, none⟩) (sl := ob.rows.length) (cap := (mu i_o).cap) (olds := olds) hu hu' hi hz hlen (hfirst w rfl) hfirst (fun w' hw' => first_run o1.len (fun ad ha j u hj => by
                obtain rfl : (⟨b, 0, none⟩ : Addr) = ad := Option.some.inj ha
                have h9 : w.cell? ⟨b, j, none⟩ = some u := by rw [cell_heap (show w.heap[b]? = _ from q6)]; have := o2 j u hj; rwa [Nat.zero_add] at this
                rw [add_none, Nat.zero_add]
                unfold World.cell? at h9 ⊢; rw [hw']; exact h9) (fun hA => by cases hA)) (by omega) hby hbe
            refine yields_of (hex _ _ hrun) ⟨_, _, hK, ?_⟩
            have := c.grow (zz := z) (t := el) (by_ := i.bytes) happ hh (fun x => by have := m3 x; have := hF x; have := q9 x; show (FR x + Fs x) + Fh x ≤ F x; omega) (by simpa using hnc) (by simpa using hlim2) hcs
            simpa using this
      · exact h.elim
    · exact h.elim
  · exact h.elim
end Go.Av
