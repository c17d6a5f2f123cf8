/- The engine, part 2 of 3: abstract values and an evaluator of code over them. -/
import Derived.Laws.Append
import Derived.Laws.MakeOwn
import Derived.Orders
import Derived.OpenShut
import Derived.Deep.Slices
import Derived.SizedLaws
import Derived.Test.YtjlmfcddbcoimaaGreatAvM0
section
/- Engine, part 11c: slices made, grown, copied, cut. -/
set_option linter.unusedVariables false
set_option linter.unusedSimpArgs false
set_option autoImplicit false
namespace Go.Av
variable {P : Program} [Known P] {B : Base P} {o : Oper} {s : St} {a : Act} {w : World} {K : St → AV → Prop}

/-! ### Rows as values -/
/-- The rows' values, wherever they are put. -/
structure RowV (C : Cx) (e : Nat) (rows : List (List AV)) (us : List Value) (F : Foot) : Prop where
  len : us.length = rows.length * e
  put : ∀ (c : Array Value) (off : Nat), (∀ j u, us[j]? = some u → c[off + j]? = some u) → RepO C e rows c off F
  one : ∀ u ∈ us, u.oneCell' = true
theorem RowV.nil (C : Cx) (e : Nat) : RowV C e [] [] (fun _ => 0) := ⟨by simp, fun _ _ _ => fun _ => rfl, by simp⟩
theorem RowV.cons {C : Cx} {e : Nat} {r : List AV} {rows : List (List AV)} {vs us : List Value} {F1 F2 F : Foot} (hr : RepL C r vs F1) (hl : r.length = e) (ho : ∀ v ∈ vs, v.oneCell' = true) (h : RowV C e rows us F2) (hF : ∀ b, F b = F1 b + F2 b) : RowV C e (r :: rows) (vs ++ us) F where
  len := by rw [List.length_append, RepL.length _ _ _ hr, h.len, List.length_cons, Nat.add_mul, Nat.one_mul]; omega
  put c off k := by
    have hvl := RepL.length _ _ _ hr
    refine ⟨F1, F2, hl, RepB.of_list r vs off F1 (fun j u hj => k j u ?_) ho hr, h.put c (off + e) (fun j u hj => ?_), hF⟩
    · rw [List.getElem?_append_left (List.getElem?_eq_some_iff.1 hj).1]; exact hj
    · rw [show off + e + j = off + (vs.length + j) by rw [hvl]; omega]
      refine k _ u ?_
      rw [List.getElem?_append_right (by omega)]
      simpa using hj
  one u hu := (List.mem_append.1 hu).elim (ho u) (h.one u)
theorem RepR.rowV {C : Cx} {e : Nat} : ∀ (l : List (List AV)) (a : Option Addr) (i : Nat), RepR C e l a i → ∃ us, RowV C e l us (fun _ => 0) ∧ ∀ ad, a = some ad → ∀ j u, us[j]? = some u → C.w.cell? (ad.add (i * e + j)) = some u
  | [], a, i, h => ⟨[], RowV.nil C e, fun ad _ j u hj => by simp at hj⟩
  | r :: l, a, i, h => by
    obtain ⟨⟨ad, ha, hl, hA⟩, h2⟩ := h
    obtain ⟨us, k1, k2⟩ := RepR.rowV l a (i + 1) h2
    obtain ⟨vs, m1, m2, m3, m4⟩ := RepA.vals r ad _ hA
    refine ⟨vs ++ us, RowV.cons m1 hl m4 k1 (fun b => by simp), fun ad' ha' j u hj => ?_⟩
    obtain rfl : ad = ad' := Option.some.inj (ha.symm.trans ha')
    by_cases hjl : j < vs.length
    · rw [List.getElem?_append_left hjl] at hj
      exact m3 j u hj
    · rw [List.getElem?_append_right (by omega)] at hj
      have := k2 ad ha (j - vs.length) u hj
      rwa [show (i + 1) * e + (j - vs.length) = i * e + j by rw [Nat.add_mul, Nat.one_mul]; omega] at this
theorem RepO.rowV {C : Cx} {e : Nat} {c : Array Value} : ∀ (l : List (List AV)) (off : Nat) (F : Foot), RepO C e l c off F → ∃ us, RowV C e l us F ∧ ∀ j u, us[j]? = some u → c[off + j]? = some u
  | [], off, F, h => ⟨[], ⟨by simp, fun _ _ _ => h, by simp⟩, fun j u hj => by simp at hj⟩
  | r :: l, off, F, h => by
    obtain ⟨F1, F2, hl, h1, h2, h3⟩ := h
    obtain ⟨us, k1, k2⟩ := RepO.rowV l (off + e) F2 h2
    obtain ⟨vs, m1, m2, m3, m4⟩ := RepB.to_list r off F1 h1
    refine ⟨vs ++ us, RowV.cons m1 hl m4 k1 h3, fun j u hj => ?_⟩
    by_cases hjl : j < vs.length
    · rw [List.getElem?_append_left hjl] at hj
      exact m3 j u hj
    · rw [List.getElem?_append_right (by omega)] at hj
      have := k2 (j - vs.length) u hj
      rwa [show off + e + (j - vs.length) = off + j by omega] at this
theorem RowV.mono {C C' : Cx} {e : Nat} {rows : List (List AV)} {us : List Value} {F : Foot} (hx : Ext C C') (hk : ∀ b, F b ≠ 0 → C'.w.heap[b]? = C.w.heap[b]?) (h : RowV C e rows us F) : RowV C' e rows us F :=
  ⟨h.len, fun c off k => (h.put c off k).mono hx _ _ _ _ _ hk, h.one⟩

/-! ### Making -/
theorem mkT_spec {P : Program} {t e by_ : Nat} {z : List AV} (h : mkT P t = some (e, by_, z)) : ∃ el i v, P.underlying t = some (.slice el) ∧ P.info? el = some i ∧ i.zero = some v ∧ i.size = e ∧ i.bytes = by_ ∧ e ≠ 0 ∧ by_ ≠ 0 ∧
    (∀ C : Cx, RepL C z v.cells.toList (fun _ => 0)) ∧ v.cells.size = e ∧ z.length = e ∧ (∀ u ∈ v.cells.toList, u.oneCell' = true) := by
  unfold mkT at h
  split at h
  · rename_i el hu
    split at h
    · rename_i i hi
      split at h
      · rename_i v hz
        split at h
        · rename_i l hl
          cases hok : okV 3 v && l.all AV.one && Nat.beq l.length i.size && !Nat.beq i.size 0 && !Nat.beq i.bytes 0 with
          | false => rw [hok] at h; simp at h
          | true =>
            rw [hok] at h
            obtain ⟨rfl, rfl, rfl⟩ : i.size = e ∧ i.bytes = by_ ∧ l.map AV.nb = z := by simpa using h
            simp only [Bool.and_eq_true, Bool.not_eq_true'] at hok
            obtain ⟨⟨⟨⟨h1, h2⟩, h3⟩, h4⟩, h5⟩ := hok
            have hr0 : ∀ C : Cx, RepL C l v.cells.toList (fun _ => 0) := fun C => cells_rep (C := C) (rep_ofVal 3 v h1) hl
            have h3' := Nat.eq_of_beq_eq_true h3
            have hlen := RepL.length _ _ _ (hr0 ⟨default, fun _ => False, fun _ => default, 0⟩)
            refine ⟨el, i, v, hu, hi, hz, rfl, rfl, fun h0 => by rw [h0] at h4; simp at h4, fun h0 => by rw [h0] at h5; simp at h5, fun C => nbL_rep _ _ _ (hr0 C), ?_, by simp [h3'], all_one_rep l _ _ (hr0 ⟨default, fun _ => False, fun _ => default, 0⟩) h2⟩
            have : v.cells.toList.length = i.size := by rw [hlen, h3']
            simpa using this
        · simp at h
      · simp at h
    · simp at h
  · simp at h
theorem rowV_replicate {C : Cx} {z : List AV} {vs : List Value} (hz : RepL C z vs (fun _ => 0)) (ho : ∀ v ∈ vs, v.oneCell' = true) : ∀ n : Nat, RowV C z.length (List.replicate n z) ((List.replicate n vs).flatten) (fun _ => 0)
  | 0 => by simpa using RowV.nil C z.length
  | n + 1 => by
    rw [List.replicate_succ, List.replicate_succ, List.flatten_cons]
    exact RowV.cons hz rfl ho (rowV_replicate hz ho n) (fun b => by simp)
theorem flatten_get {vs : List Value} {e : Nat} (hv : vs.length = e) (he : e ≠ 0) : ∀ (n j : Nat) (u : Value), ((List.replicate n vs).flatten)[j]? = some u → j < n * e ∧ vs[j % e]? = some u
  | 0, j, u, h => by simp at h
  | n + 1, j, u, h => by
    rw [List.replicate_succ, List.flatten_cons] at h
    by_cases hj : j < vs.length
    · rw [List.getElem?_append_left hj] at h
      rw [Nat.mod_eq_of_lt (by omega), Nat.add_mul]
      exact ⟨by omega, h⟩
    · rw [List.getElem?_append_right (by omega)] at h
      obtain ⟨h1, h2⟩ := flatten_get hv he n _ u h
      rw [hv] at h1 h2
      refine ⟨by rw [Nat.add_mul]; omega, ?_⟩
      rw [← h2]
      congr 1
      rw [Nat.mod_eq_sub_mod (show e ≤ j by omega)]
theorem range_get {z : Array Value} {n j : Nat} {u : Value} (hj : j < n) (h : z[j % z.size]? = some u) : ((Array.range n).map (fun i => z[i % z.size]!))[j]? = some u := by
  rw [Array.getElem?_map]
  have : (Array.range n)[j]? = some j := by simp [Array.getElem?_range, hj]
  rw [this, Option.map_some]
  rw [getElem!_def, h]
theorem y_makeSlice {t : TypeId} {n q : Operand} (e : o.op = .makeSlice t n q) (hn0 : okO n = true) (hq0 : okO q = true) (hr : Rel B s a w) (h : stp P (.makeSlice t n q) s K) : Yields P o a w (Out B a K) := by
  obtain ⟨mu, F, c⟩ := hr
  simp only [stp] at h
  have hn := c.ev n hn0
  have hq := c.ev q hq0
  split at h
  · rename_i sz by_ z l m h1 h2 h3
    rw [h2] at hn
    rw [h3] at hq
    obtain ⟨k1, k2, k3, hK⟩ := h
    obtain ⟨el, i, v, hu, hi, hz, rfl, rfl, hne, hbe, hr0, hcs, hzl, hone⟩ := mkT_spec h1
    obtain ⟨hn, hnw, _⟩ := hn
    obtain ⟨hq, hqw, _⟩ := hq
    have hb1 : (1 : Int) ≤ i.bytes := by omega
    have hm : m ≤ m * i.bytes := by
      have := Int.mul_le_mul_of_nonneg_left hb1 (show 0 ≤ m by omega)
      rwa [Int.mul_one] at this
    let cells : Array Value := madeCells v.cells (m.toNat * i.size)
    have hrun : (execOp a.eval o).run P w = .ok (.value (.slice (some ⟨w.heap.size, 0, none⟩) l.toNat m.toNat)) (w.alloc (.cells cells el)) := by
      simp only [execOp, e, hn, hq, Sem.run_bind, run_make w t el i v hu hi hz .i64 .i64 l m k1 k2 (by rw [Int.mul_comm]; omega) (by omega), Result.andThen_ok, Sem.run_pure]
      rfl
    have hRV := rowV_replicate (hr0 (cx B w mu F s.nx).pu) hone l.toNat
    rw [hzl] at hRV
    have hvl : v.cells.toList.length = i.size := by simpa using hcs
    have hO := hRV.put cells 0 (fun j u hj => by
      obtain ⟨g1, g2⟩ := flatten_get hvl hne _ _ _ hj
      rw [Nat.zero_add]
      have hle : l.toNat * i.size ≤ m.toNat * i.size := Nat.mul_le_mul_right _ (by omega)
      refine range_get (by omega) ?_
      rw [hcs]
      simpa using g2)
    obtain ⟨F', c'⟩ := c.new (t := el) (d := z) (cap := m.toNat) (g := false) (FR := fun _ => 0) (h' := s.hp) (Fh := F) hO c.hp (fun b => by simp) (by rw [List.length_replicate]; omega) (by rw [List.length_replicate]; unfold lim; omega) (by simp only [cells]; rw [size_madeCells])
    refine yields_of hrun ⟨_, _, hK, _, F', c', by simp [cx], ?_, fun _ => rfl⟩
    simp [cx, updMu]
  · exact h.elim

/-! ### Growing -/
theorem first_run {P : Program} {w : World} {us : List Value} {A : Option Addr} {n m cap e : Nat} (hl : us.length = n * e) (h : ∀ ad, A = some ad → ∀ j u, us[j]? = some u → w.cell? (ad.add j) = some u) (hn : A = none → us = []) :
    (Builtin.firstCells e n (.slice A m cap)).run P w = .ok us.toArray w := by
  cases A with
  | none => rw [hn rfl]; simp [Builtin.firstCells]
  | some ad =>
    simp only [Builtin.firstCells]
    rw [← hl]
    exact run_loadCells_list w ad us (h ad rfl)
theorem take_len {us : List Value} {n k e : Nat} (h : us.length = n * e) (hk : k ≤ n) : (us.take (k * e)).length = k * e := by
  rw [List.length_take, h]; exact Nat.min_eq_left (Nat.mul_le_mul_right _ hk)
theorem take_get {us : List Value} {n j : Nat} {u : Value} (h : (us.take n)[j]? = some u) : us[j]? = some u := by
  rw [List.getElem?_take] at h
  split at h
  · exact h
  · cases h
theorem src_sound {e : Nat} {y : Operand} {h0 : Hp} {F0 F : Foot} {mu : Nat → Hdr} {K' : List (List AV) → Hp → Prop} (c : Core B s a w mu F) (hy0 : okO y = true) (hh : RepH (cx B w mu F s.nx) h0 F0) (h : srcW s e (s.ev y) h0 K') :
    ∃ (rows : List (List AV)) (h' : Hp) (us : List Value) (Fs Fh : Foot), K' rows h' ∧ rows.length ≤ lim ∧ RowV (cx B w mu F s.nx).pu e rows us Fs ∧ RepH (cx B w mu F s.nx) h' Fh ∧ (∀ b, Fs b + Fh b ≤ F0 b) ∧
      (Builtin.lenOf (a.eval y)).run P w = .ok rows.length w ∧ (∀ (w' : World) (k : Nat), w'.heap = w.heap → k ≤ rows.length → (Builtin.firstCells e k (a.eval y)).run P w' = .ok (us.take (k * e)).toArray w') := by
  have hcell : ∀ (w' : World) (A : Addr), w'.heap = w.heap → w'.cell? A = w.cell? A := fun w' A hw => by unfold World.cell?; rw [hw]
  have hy := c.ev y hy0
  unfold srcW at h
  split at h
  · rename_i hv
    rw [hv] at hy
    exact ⟨[], h0, [], fun _ => 0, F0, h, by simp, RowV.nil _ _, hh, fun b => by simp, by rw [hy.1]; rfl, fun w' k hw hk => by rw [hy.1]; simp [Builtin.firstCells]⟩
  · rename_i e' rows d hv
    obtain ⟨rfl, h⟩ := h
    rw [hv] at hy
    obtain ⟨⟨A, cap, hyv, k1, k2, k3⟩, _⟩ := hy
    obtain ⟨us, m1, m2⟩ := RepR.rowV rows A 0 k3
    refine ⟨rows, h0, us, fun _ => 0, F0, h k2, k2, m1, hh, fun b => by simp, by rw [hyv]; rfl, ?_⟩
    intro w' k hw hk
    rw [hyv]
    refine first_run (take_len m1.len hk) (fun ad ha j u hj => by have := m2 ad ha j u (take_get hj); rw [hcell w' _ hw]; rwa [Nat.zero_mul, Nat.zero_add] at this) (fun hA => ?_)
    cases rows with
    | nil => rw [List.eq_nil_of_length_eq_zero (show us.length = 0 by rw [m1.len]; simp)]; simp
    | cons r rows => obtain ⟨⟨ad, ha, _⟩, _⟩ := k3; rw [hA] at ha; cases ha
  · rename_i i_o hv
    split at h
    · rename_i ob hob
      obtain ⟨rfl, hg, h⟩ := h
      rw [hv] at hy
      obtain ⟨hlt, hyv, _⟩ := hy
      obtain ⟨G1, G2, m1, m2, m3⟩ := RepH.take h0 F0 _ ob hh hob
      have hl := m1.len
      rcases m1.2 with ⟨q1, q2, q3, q4, q5⟩ | ⟨b, cc, t, FR, q1, q2, q3, q4, q5, q6, q7, q8, q9⟩
      · refine ⟨ob.rows, _, [], G1, G2, h hl.2, hl.2, ⟨by rw [q4]; simp, fun c off _ => ?_, by simp⟩, m2, fun b => by rw [m3 b]; exact Nat.le_refl _, ?_, ?_⟩
        · rw [q4]; exact q5
        · rw [hyv, q4]; simp [Builtin.lenOf, q2]
        · intro w' k hw hk; rw [hyv, q1]; simp [Builtin.firstCells]
      · rw [hg] at q8
        obtain ⟨us, r1, r2⟩ := RepO.rowV _ _ _ q8
        refine ⟨ob.rows, _, us, FR, G2, h hl.2, hl.2, r1, m2, fun x => by have := m3 x; have := q9 x; omega, ?_, ?_⟩
        · rw [hyv, q2]; rfl
        · intro w' k hw hk
          rw [hyv, q1, q2]
          exact first_run (take_len r1.len hk) (fun ad ha j u hj => by
            rw [hcell w' _ hw]
            replace hj := take_get hj
            simp only [Option.map_some, Option.some.injEq] at ha
            subst ha
            rw [add_none, Nat.zero_add, cell_heap (show w.heap[b]? = _ from q6)]
            have := r2 j u hj
            rwa [Nat.zero_add] at this) (fun hA => by simp at hA)
    · exact h.elim
  · exact h.elim

theorem RowV.append {C : Cx} {e : Nat} {r1 r2 : List (List AV)} {u1 u2 : List Value} {F1 F2 F : Foot} (h1 : RowV C e r1 u1 F1) (h2 : RowV C e r2 u2 F2) (hF : ∀ b, F b = F1 b + F2 b) : RowV C e (r1 ++ r2) (u1 ++ u2) F where
  len := by rw [List.length_append, List.length_append, h1.len, h2.len, Nat.add_mul]
  put c off k := (RepO.append _ _ _ _).2 ⟨F1, F2, h1.put c off (fun j u hj => k j u (by rw [List.getElem?_append_left (List.getElem?_eq_some_iff.1 hj).1]; exact hj)),
    h2.put c _ (fun j u hj => by
      rw [Nat.add_assoc, ← h1.len]
      exact k _ u (by rw [List.getElem?_append_right (by omega)]; simpa using hj)), hF⟩
  one u hu := (List.mem_append.1 hu).elim (h1.one u) (h2.one u)
theorem Core.drew {s : St} {mu : Nat → Hdr} {F : Foot} (c : Core B s a w mu F) : Core B s a w.drew mu F :=
  c.step (s' := s) ⟨rfl, rfl, rfl, Nat.le_refl _, fun _ _ _ => rfl, fun _ _ h => h, c.one, fun b hb => (c.blk b hb).1⟩ (Nat.le_refl _) (fun _ _ => rfl) rfl
    (RepH.mono (C := cx B w mu F s.nx) (C' := cx B w.drew mu F s.nx) ⟨fun b hb => hb, fun _ _ => rfl, Nat.le_refl _, fun _ _ => rfl⟩ _ _ c.hp (fun _ _ => rfl))
theorem drew_ext {mu : Nat → Hdr} {F : Foot} {n : Nat} : Ext (cx B w mu F n) (cx B w.drew mu F n) := ⟨fun b hb => hb, fun _ _ => rfl, Nat.le_refl _, fun _ _ => rfl⟩
section
variable {t t' ty el el' : TypeId} {i : TypeInfo} {z : Value} {y : Value} {n : Nat} {us : List Value}
/-- Appending where there is room. -/
theorem append_room {P : Program} (ht : P.underlying t = some (.slice el)) (ht' : P.underlying t' = some (.slice el')) (hi : P.info? el = some i) (hlen : (Builtin.lenOf y).run P w = .ok n w) (hfirst : (Builtin.firstCells i.size n y).run P w = .ok us.toArray w)
    {b sl cap : Nat} {c : Array Value} {bt : TypeId} (hb : w.heap[b]? = some (.cells c bt (0, 0))) (hfit : sl * i.size + us.length ≤ c.size) (hone : ∀ u ∈ us, u.oneCell' = true) (hroom : sl + n ≤ cap) :
    (Builtin.append_ #[t, t'] ty #[.slice (some ⟨b, 0, none⟩) sl cap, y]).run P w = .ok (.slice (some ⟨b, 0, none⟩) (sl + n) cap) (w.setCells b (sl * i.size) us) := by
  have hs := storeCells_run (P := P) (w := w) (b := b) (o := sl * i.size) (vs := us) hb hfit hone
  have ha : (⟨b, 0, none⟩ : Addr).add (sl * i.size) = ⟨b, sl * i.size, none⟩ := by rw [add_none, Nat.zero_add]
  simp [Builtin.append_, run_underlying ht, run_underlying ht', sizeOf, typeInfo, hi, hlen, hroom, hfirst, ha, hs]
/-- Appending nothing to nil. -/
theorem append_none {P : Program} (ht : P.underlying t = some (.slice el)) (ht' : P.underlying t' = some (.slice el')) (hi : P.info? el = some i) (hlen : (Builtin.lenOf y).run P w = .ok 0 w) (hfirst : (Builtin.firstCells i.size 0 y).run P w = .ok us.toArray w) :
    (Builtin.append_ #[t, t'] ty #[.slice none 0 0, y]).run P w = .ok (.slice none 0 0) w := by
  simp [Builtin.append_, run_underlying ht, run_underlying ht', sizeOf, typeInfo, hi, hlen, hfirst]
/-- Appending into new memory. -/
theorem append_grow {P : Program} (ht : P.underlying t = some (.slice el)) (ht' : P.underlying t' = some (.slice el')) (hi : P.info? el = some i) (hz : i.zero = some z) (hlen : (Builtin.lenOf y).run P w = .ok n w) (hfirst : (Builtin.firstCells i.size n y).run P w = .ok us.toArray w)
    (hfirst' : ∀ w', w'.heap = w.heap → (Builtin.firstCells i.size n y).run P w' = .ok us.toArray w')
    {A : Option Addr} {sl cap : Nat} {olds : List Value} (hold : ∀ w', w'.heap = w.heap → (Builtin.firstCells i.size sl (.slice A sl cap)).run P w' = .ok olds.toArray w') (hroom : cap < sl + n) (hby : (sl + n) * i.bytes ≤ 140737488355328) (hbz : i.bytes ≠ 0) :
    ∃ nc, sl + n ≤ nc ∧ (Builtin.append_ #[t, t'] ty #[.slice A sl cap, y]).run P w = .ok (.slice (some ⟨w.heap.size, 0, none⟩) (sl + n) nc) (w.drew.alloc (.cells (olds.toArray ++ us.toArray ++ Builtin.zeroCells z.cells (nc - (sl + n))) el)) := by
  have h1 : ¬ (sl + n ≤ cap) := by omega
  have h3 : ¬ (281474976710656 < Builtin.nextslicecap (sl + n) cap * i.bytes) := by have := growslice_fits (old := cap) hroom hby; omega
  let nc := Question.cut (.appendCap (sl + n) cap el) (w.tape w.drawn (.appendCap (sl + n) cap el))
  refine ⟨nc, by simp only [nc, Question.cut]; omega, ?_⟩
  have hw : w.drew.heap = w.heap := rfl
  have hf := hfirst' w.drew hw
  have ho := hold w.drew hw
  have hd : ({ w with drawn := w.drawn + 1 } : World) = w.drew := rfl
  simp [Builtin.append_, run_underlying ht, run_underlying ht', sizeOf, typeInfo, hi, hlen, h1, hbz, h3, Question.forced, hd, ho, hf, zeroValue, hz, newRow, nc]
  rw [← Array.append_assoc]; simp
end
theorem RepH.at_ {C : Cx} {h : Hp} {F : Foot} {o : Nat} {ob : Ob} (hH : RepH C h F) (hg : geth h o = some ob) : ∃ F1 F2 : Foot, RepOb C o ob F1 ∧ RepH C (remh h o) F2 ∧ ∀ b, F b = F1 b + F2 b := RepH.take h F o ob hH hg
theorem zeroCells_size (z : Array Value) (n : Nat) : (Builtin.zeroCells z n).size = n * z.size := by simp [Builtin.zeroCells]

theorem heap_drew (w : World) : w.drew.heap = w.heap := rfl
/-- New memory for rows that are known. -/
theorem Core.grow {s : St} {mu : Nat → Hdr} {F : Foot} (c : Core B s a w mu F) {rows : List (List AV)} {us : List Value} {e by_ : Nat} {zz : List AV} {zv : Array Value} {FR Fh : Foot} {h' : Hp} {nc : Nat} {t : TypeId} (hrv : RowV (cx B w mu F s.nx).pu e rows us FR) (hh : RepH (cx B w mu F s.nx) h' Fh)
    (hs : ∀ b, FR b + Fh b ≤ F b) (hnc : rows.length ≤ nc) (hl : rows.length ≤ lim) (hz : zv.size = e) :
    RelV B ⟨s.tm, (s.nx, ⟨e, rows, zz, false⟩) :: h', s.nx + 1⟩ a (w.drew.alloc (.cells (us.toArray ++ Builtin.zeroCells zv (nc - rows.length)) t)) (.os s.nx) (.slice (some ⟨w.heap.size, 0, none⟩) rows.length nc) := by
  have hO := (hrv.mono (drew_ext (B := B) (w := w) (mu := mu) (F := F) (n := s.nx)).pu (fun _ _ => rfl)).put (us.toArray ++ Builtin.zeroCells zv (nc - rows.length)) 0 (fun j u hj => by
    rw [Nat.zero_add, Array.getElem?_append_left (by simpa using (List.getElem?_eq_some_iff.1 hj).1)]
    simpa using hj)
  obtain ⟨F', c'⟩ := c.drew.new (t := t) (d := zz) (cap := nc) (g := false) hO (RepH.mono drew_ext _ _ hh (fun _ _ => rfl)) hs hnc hl (by
    rw [Array.size_append, zeroCells_size, hz, List.size_toArray, hrv.len, ← Nat.add_mul]
    congr 1; omega)
  exact ⟨_, F', c', by simp [cx], by simp [cx, updMu, heap_drew], fun _ => rfl⟩
theorem y_append {cl : Call} (e : o.op = .call cl) (hcal : cl.callee = .builtin .append) (hargs0 : cl.args.toList.all okO = true) (hr : Rel B s a w) (h : stp P (.call cl) s K) : Yields P o a w (Out B a K) := by
  obtain ⟨mu, F, c⟩ := hr
  simp only [stp, hcal] at h
  split at h
  · rename_i x y t t' hargs hty
    have ha : cl.args = #[x, y] := by rw [← Array.toList_inj]; exact hargs
    have hT : cl.argTypes = #[t, t'] := by rw [← Array.toList_inj]; exact hty
    rw [hargs] at hargs0
    simp only [List.all_cons, List.all_nil, Bool.and_true, Bool.and_eq_true] at hargs0
    have hx := c.ev x hargs0.1
    split at h
    · rename_i sz by_ z hm hk hv
      rw [hv] at hx
      obtain ⟨el, i, v, hu, hi, hz, rfl, rfl, hne, hbe, hr0, hcs, hzl, hone⟩ := mkT_spec hm
      obtain ⟨el', hu'⟩ := lkT_slice hk
      obtain ⟨rows, h', us, Fs, Fh, hK, hlim, hrv, hh, hF, hlen, hfirst0⟩ := src_sound c hargs0.2 c.hp h
      have hfirst : ∀ w' : World, w'.heap = w.heap → (Builtin.firstCells i.size rows.length (a.eval y)).run P w' = .ok us.toArray w' := fun w' hw => by
        have := hfirst0 w' rows.length hw (Nat.le_refl _)
        rwa [List.take_of_length_le (by rw [hrv.len]; exact Nat.le_refl _)] at this
      obtain ⟨hby, hK⟩ := hK
      have hex : ∀ r w', (Builtin.append_ #[t, t'] o.type #[.slice none 0 0, a.eval y]).run P w = .ok r w' → (execOp a.eval o).run P w = .ok (.value r) w' := fun r w' hrun => by
        simp [execOp, e, resolve, hcal, ha, hT, invoke, builtin, hx.1, hrun]
      by_cases h0 : rows = []
      · subst h0
        have hus : us = [] := List.eq_nil_of_length_eq_zero (by rw [hrv.len]; simp)
        refine yields_of (hex _ _ (append_none hu hu' hi hlen (hfirst w rfl))) ?_
        refine ⟨_, _, hK, updMu mu s.nx ⟨none, 0, 0, i.size⟩, fun b => 0 + Fh b, ?_, by simp [cx], by simp [cx, updMu], fun _ => rfl⟩
        have st : Stp w w F (fun b => 0 + Fh b) := ⟨rfl, rfl, rfl, Nat.le_refl _, fun _ _ _ => rfl, fun b _ h => by have := hF b; show 0 + Fh b = 0; omega, fun b => by have := hF b; have := c.one b; show 0 + Fh b ≤ 1; omega, fun b hb => (c.blk b (by have := hF b; have h2 : 0 + Fh b ≠ 0 := hb; omega)).1⟩
        have hm' : ∀ o, o < s.nx → updMu mu s.nx ⟨none, 0, 0, i.size⟩ o = mu o := fun o ho => by unfold updMu; rw [if_neg (by omega)]
        refine c.step (s' := ⟨s.tm, _, _⟩) st (by simp) hm' rfl ⟨fun _ => 0, Fh, ⟨by simp [cx], .inl ⟨by simp [cx, updMu], by simp [cx, updMu], by simp [cx, updMu], rfl, fun _ => rfl⟩⟩, RepH.mono (st.ext (by simp) hm') _ _ hh (fun _ _ => rfl), fun _ => rfl⟩
      · have hpos : 0 < rows.length := List.length_pos_iff.2 h0
        obtain ⟨nc, hnc, hrun⟩ := append_grow (t := t) (t' := t') (ty := o.type) (A := none) (sl := 0) (cap := 0) (olds := []) hu hu' hi hz hlen (hfirst w rfl) hfirst (fun w' _ => by simp [Builtin.firstCells]) (by omega) (by rw [Nat.zero_add]; exact hby) hbe
        rw [Nat.zero_add] at hrun hnc
        refine yields_of (hex _ _ hrun) ⟨_, _, hK, ?_⟩
        have := c.grow (zz := z) (t := el) (by_ := i.bytes) hrv hh hF hnc hlim hcs
        simpa using this
    · rename_i sz by_ z i_o hm hk hv
      rw [hv] at hx
      obtain ⟨el, i, v, hu, hi, hz, rfl, rfl, hne, hbe, hr0, hcs, hzl, hone⟩ := mkT_spec hm
      obtain ⟨el', hu'⟩ := lkT_slice hk
      split at h
      · rename_i ob hob
        obtain ⟨hoe, hg, h⟩ := h
        obtain ⟨G1, G2, m1, m2, m3⟩ := c.hp.at_ hob
        obtain ⟨rows, h', us, Fs, Fh, hK, hlim, hrv, hh, hF, hlen, hfirst0⟩ := src_sound c hargs0.2 m2 h
        have hfirst : ∀ w' : World, w'.heap = w.heap → (Builtin.firstCells i.size rows.length (a.eval y)).run P w' = .ok us.toArray w' := fun w' hw => by
          have := hfirst0 w' rows.length hw (Nat.le_refl _)
          rwa [List.take_of_length_le (by rw [hrv.len]; exact Nat.le_refl _)] at this
        obtain ⟨hby, hK⟩ := hK
        obtain ⟨hlt, hxv, _⟩ := hx
        have hex : ∀ r w', (Builtin.append_ #[t, t'] o.type #[a.eval x, a.eval y]).run P w = .ok r w' → (execOp a.eval o).run P w = .ok (.value r) w' := fun r w' hrun => by
          simp [execOp, e, resolve, hcal, ha, hT, invoke, builtin, hrun]
        have hlim2 : ob.rows.length + rows.length ≤ lim := by
          have : (ob.rows.length + rows.length) * 1 ≤ (ob.rows.length + rows.length) * i.bytes := Nat.mul_le_mul_left _ (by omega)
          unfold lim; omega
        rcases m1.2 with ⟨q1, q2, q3, q4, q5⟩ | ⟨b, cc, bt, FR, q1, q2, q3, q4, q5, q6, q7, q8, q9⟩
        · have hxv' : a.eval x = .slice none 0 0 := by rw [hxv, q1, q2, q3]; rfl
          rw [hxv'] at hex
          have hFs : ∀ x, Fs x + Fh x ≤ F x := fun x => by have := m3 x; have := hF x; omega
          by_cases h0 : rows = []
          · subst h0
            refine yields_of (hex _ _ (append_none hu hu' hi hlen (hfirst w rfl))) ?_
            rw [q4, List.nil_append] at hK
            refine ⟨_, _, hK, updMu mu s.nx ⟨none, 0, 0, i.size⟩, fun b => 0 + Fh b, ?_, by simp [cx], by simp [cx, updMu], fun _ => rfl⟩
            have st : Stp w w F (fun b => 0 + Fh b) := ⟨rfl, rfl, rfl, Nat.le_refl _, fun _ _ _ => rfl, fun b _ h => by have := hFs b; show 0 + Fh b = 0; omega, fun b => by have := hFs b; have := c.one b; show 0 + Fh b ≤ 1; omega, fun b hb => (c.blk b (by have := hFs b; have h2 : 0 + Fh b ≠ 0 := hb; omega)).1⟩
            have hm' : ∀ o, o < s.nx → updMu mu s.nx ⟨none, 0, 0, i.size⟩ o = mu o := fun o ho => by unfold updMu; rw [if_neg (by omega)]
            refine c.step (s' := ⟨s.tm, _, _⟩) st (by simp) hm' rfl ⟨fun _ => 0, Fh, ⟨by simp [cx], .inl ⟨by simp [cx, updMu], by simp [cx, updMu], by simp [cx, updMu], rfl, fun _ => rfl⟩⟩, RepH.mono (st.ext (by simp) hm') _ _ hh (fun _ _ => rfl), fun _ => rfl⟩
          · have hpos : 0 < rows.length := List.length_pos_iff.2 h0
            obtain ⟨nc, hnc, hrun⟩ := append_grow (t := t) (t' := t') (ty := o.type) (A := none) (sl := 0) (cap := 0) (olds := []) hu hu' hi hz hlen (hfirst w rfl) hfirst (fun w' _ => by simp [Builtin.firstCells]) (by omega) (by rw [q4] at hby; simpa using hby) hbe
            rw [Nat.zero_add] at hrun hnc
            refine yields_of (hex _ _ hrun) ⟨_, _, hK, ?_⟩
            rw [q4, List.nil_append]
            have := c.grow (zz := z) (t := el) (by_ := i.bytes) hrv hh hFs hnc hlim hcs
            simpa using this
        · rw [hg] at q8
          rw [hoe] at q3 q7 q8
          have q1' : (mu i_o).b = some b := q1
          have q2' : (mu i_o).len = ob.rows.length := q2
          have hxv' : a.eval x = .slice (some ⟨b, 0, none⟩) ob.rows.length (mu i_o).cap := by rw [hxv, q1, q2]; rfl
          rw [hxv'] at hex
          obtain ⟨olds, o1, o2⟩ := RepO.rowV _ _ _ q8
          have happ := RowV.append o1 hrv (F := fun x => FR x + Fs x) (fun _ => rfl)
          by_cases hroom : ob.rows.length + rows.length ≤ (mu i_o).cap
          · have hfit : ob.rows.length * i.size + us.length ≤ cc.size := by
              rw [q7, hrv.len, ← Nat.add_mul]; exact Nat.mul_le_mul_right _ hroom
            have hrun := append_room (t := t) (t' := t') (ty := o.type) hu hu' hi hlen (hfirst w rfl) (cap := (mu i_o).cap) (show w.heap[b]? = _ from q6) hfit hrv.one hroom
            refine yields_of (hex _ _ hrun) ⟨_, _, hK, ?_⟩
            let F' : Foot := fun y => ((if y = b then 1 else 0) + (FR y + Fs y)) + Fh y
            have hF' : ∀ y, F' y ≤ F y := fun y => by have := m3 y; have := hF y; have := q9 y; simp only [F']; omega
            have hFb : F b ≠ 0 := by have := hF' b; simp [F'] at this; omega
            have st : Stp w (w.setCells b (ob.rows.length * i.size) us) F F' := stp_write b _ us hFb hF' c.one (fun y hy => (c.blk y hy).1)
            let mu' := updMu mu s.nx ⟨some b, ob.rows.length + rows.length, (mu i_o).cap, i.size⟩
            have hm' : ∀ o, o < s.nx → mu' o = mu o := fun o ho => by simp only [mu', updMu]; rw [if_neg (by omega)]
            have hx' := st.ext (B := B) (mu := mu) (mu' := mu') (n := s.nx) (n' := s.nx + 1) (by omega) hm'
            have hoth : ∀ y, y ≠ b → (w.setCells b (ob.rows.length * i.size) us).heap[y]? = w.heap[y]? := fun y hy => setCells_other _ _ _ _ _ hy
            have hbone : ∀ y, FR y + Fs y + Fh y ≠ 0 → y ≠ b := fun y hy e => by
              subst e
              have h8 := c.one y; have := hF' y; simp [F'] at this; omega
            have happ' := (happ.mono hx'.pu (fun y hy => hoth y (hbone y (by omega)))).put (wr cc (ob.rows.length * i.size) us) 0 (fun j u hj => by
              rw [Nat.zero_add]
              by_cases hjl : j < olds.length
              · rw [List.getElem?_append_left hjl] at hj
                rw [wr_out _ _ _ _ (by rw [o1.len] at hjl; omega)]
                have := o2 j u hj; rwa [Nat.zero_add] at this
              · rw [List.getElem?_append_right (by omega)] at hj
                have := wr_in us cc (ob.rows.length * i.size) (j - olds.length) u hfit hj
                rwa [show ob.rows.length * i.size + (j - olds.length) = j by rw [o1.len] at hjl ⊢; omega] at this)
            refine ⟨mu', F', c.step (s' := ⟨s.tm, _, s.nx + 1⟩) st (Nat.le_succ _) hm' rfl ⟨fun y => (if y = b then 1 else 0) + (FR y + Fs y), Fh, ⟨by simp [cx], .inr ⟨b, wr cc (ob.rows.length * i.size) us, bt, fun y => FR y + Fs y, by simp [cx, mu', updMu], by simp [cx, mu', updMu], by simp [cx, mu', updMu], by simpa [cx, mu', updMu] using hroom, by simpa using hlim2, setCells_heap _ _ _ _ _ _ _ q6, by rw [wr_size]; simp [cx, mu', updMu]; exact q7, happ', fun _ => rfl⟩⟩, RepH.mono hx' _ _ hh (fun y hy => hoth y (hbone y (by omega))), fun _ => rfl⟩, by simp [cx], by simp [cx, mu', updMu], fun _ => rfl⟩
          · obtain ⟨nc, hnc, hrun⟩ := append_grow (t := t) (t' := t') (ty := o.type) (A := some ⟨b, 0, none⟩) (sl := ob.rows.length) (cap := (mu i_o).cap) (olds := olds) hu hu' hi hz hlen (hfirst w rfl) hfirst (fun w' hw' => first_run o1.len (fun ad ha j u hj => by
                obtain rfl : (⟨b, 0, none⟩ : Addr) = ad := Option.some.inj ha
                have h9 : w.cell? ⟨b, j, none⟩ = some u := by rw [cell_heap (show w.heap[b]? = _ from q6)]; have := o2 j u hj; rwa [Nat.zero_add] at this
                rw [add_none, Nat.zero_add]
                unfold World.cell? at h9 ⊢; rw [hw']; exact h9) (fun hA => by cases hA)) (by omega) hby hbe
            refine yields_of (hex _ _ hrun) ⟨_, _, hK, ?_⟩
            have := c.grow (zz := z) (t := el) (by_ := i.bytes) happ hh (fun x => by have := m3 x; have := hF x; have := q9 x; show (FR x + Fs x) + Fh x ≤ F x; omega) (by simpa using hnc) (by simpa using hlim2) hcs
            simpa using this
      · exact h.elim
    · exact h.elim
  · exact h.elim
end Go.Av
end

section
/- Engine, part 11d: cutting, copying; structs and slices written out. -/
set_option linter.unusedVariables false
set_option linter.unusedSimpArgs false
set_option autoImplicit false
namespace Go.Av
variable {P : Program} [Known P] {B : Base P} {o : Oper} {s : St} {a : Act} {w : World} {K : St → AV → Prop}

/-! ### Cutting -/
theorem RepO.chunk {C : Cx} {c : Array Value} : ∀ (l : List AV) (off : Nat) (F : Foot), RepB C l c off F → RepO C 1 (l.map fun x => [x]) c off F
  | [], off, F, h => h
  | x :: l, off, F, h => by
    obtain ⟨u, F1, F2, h1, h2, h3, h4, h5⟩ := h
    exact ⟨F1, F2, rfl, ⟨u, F1, fun _ => 0, h1, h2, h3, fun _ => rfl, fun _ => rfl⟩, RepO.chunk l (off + 1) F2 h4, h5⟩
theorem rdR_len1 : ∀ l : List AV, (rdR (l.map fun c => [c])).length = l.length
  | [] => rfl
  | _ :: l => by simp only [List.map_cons, rdR, List.length_cons, rdR_len1 l]
theorem bnd_run {lo hi : Option Operand} {n : Nat} {mu : Nat → Hdr} {F : Foot} {K' : Nat → Nat → Prop} (c : Core B s a w mu F) (hl0 : ∀ x, lo = some x → okO x = true) (hh0 : ∀ x, hi = some x → okO x = true) (h : bndW s lo hi n K') :
    ∃ l h, l ≤ h ∧ h ≤ n ∧ K' l h ∧ ∀ isS cap, n ≤ cap → (Instr.sliceBounds isS n cap (lo.map a.eval) (hi.map a.eval) none).run P w = .ok (l, h, cap) w := by
  unfold bndW at h
  split at h
  · exact ⟨0, n, Nat.zero_le _, Nat.le_refl _, h, fun isS cap hc => by simp [Instr.sliceBounds]⟩
  · rename_i x
    have hx := c.ev x (hl0 x rfl)
    split at h
    · rename_i k l hv
      rw [hv] at hx
      obtain ⟨h1, h2, h3⟩ := h
      exact ⟨l.toNat, n, by omega, Nat.le_refl _, h3, fun isS cap hc => by simp [Instr.sliceBounds, Instr.sliceBound, hx.1, asIntOf, h1, h2]⟩
    · exact h.elim
  · rename_i x
    have hx := c.ev x (hh0 x rfl)
    split at h
    · rename_i k l hv
      rw [hv] at hx
      obtain ⟨h1, h2, h3⟩ := h
      exact ⟨0, l.toNat, Nat.zero_le _, by omega, h3, fun isS cap hc => by
        have : l ≤ cap := by omega
        simp [Instr.sliceBounds, Instr.sliceBound, hx.1, asIntOf, h1, this]⟩
    · exact h.elim
  · rename_i x y
    have hx := c.ev x (hl0 x rfl)
    have hy := c.ev y (hh0 y rfl)
    split at h
    · rename_i k l k' m hv hv'
      rw [hv] at hx
      rw [hv'] at hy
      obtain ⟨h1, h2, h3, h4⟩ := h
      exact ⟨l.toNat, m.toNat, by omega, by omega, h4, fun isS cap hc => by
        have e1 : m ≤ cap := by omega
        have e2 : 0 ≤ m := by omega
        have e3 : l ≤ max m 0 := by omega
        simp [Instr.sliceBounds, Instr.sliceBound, hx.1, hy.1, asIntOf, h1, e1, e2, e3]⟩
    · exact h.elim
theorem RepR.take {C : Cx} {e : Nat} : ∀ (k : Nat) (l : List (List AV)) (a : Option Addr) (i : Nat), RepR C e l a i → RepR C e (l.take k) a i
  | 0, l, a, i, h => by simp [RepR]
  | k + 1, [], a, i, h => by simp [RepR]
  | k + 1, r :: l, a, i, h => ⟨h.1, RepR.take k l a (i + 1) h.2⟩
theorem RepR.drop {C : Cx} {e : Nat} : ∀ (k : Nat) (l : List (List AV)) (a : Option Addr) (i : Nat), RepR C e l a i → RepR C e (l.drop k) a (i + k)
  | 0, l, a, i, h => h
  | k + 1, [], a, i, h => by simp [RepR]
  | k + 1, r :: l, a, i, h => by rw [List.drop_succ_cons, show i + (k + 1) = i + 1 + k by omega]; exact RepR.drop k l a (i + 1) h.2
theorem RepR.shift {C : Cx} {e : Nat} : ∀ (l : List (List AV)) (a : Option Addr) (k i : Nat), RepR C e l a (k + i) → RepR C e l (a.map (·.add (k * e))) i
  | [], a, k, i, h => trivial
  | r :: l, a, k, i, h => by
    obtain ⟨⟨ad, h1, h2, h3⟩, h4⟩ := h
    subst h1
    exact ⟨⟨_, rfl, h2, (RepA.shift _ ad (k * e) (i * e)).1 (by rw [← Nat.add_mul]; exact h3)⟩, RepR.shift l (some ad) k (i + 1) h4⟩
theorem cut_sl {C : Cx} {e : Nat} {rows : List (List AV)} {d : List AV} {A : Option Addr} {cap l h : Nat} (h1 : l ≤ h) (h2 : h ≤ rows.length) (hc : rows.length ≤ cap) (hl : rows.length ≤ lim) (hR : RepR C.pu e rows A 0) :
    Rep C (.sl e ((rows.take h).drop l) d) (.slice (if cap = l then A else A.map (·.add (l * e))) (h - l) (cap - l)) (fun _ => 0) := by
  have hlen : ((rows.take h).drop l).length = h - l := by rw [List.length_drop, List.length_take]; omega
  refine ⟨⟨_, _, by rw [hlen], by rw [hlen]; omega, by rw [hlen]; omega, ?_⟩, fun _ => rfl⟩
  have h3 := RepR.drop l _ _ _ (RepR.take h _ _ _ hR)
  by_cases hcl : cap = l
  · have : (rows.take h).drop l = [] := List.eq_nil_of_length_eq_zero (by omega)
    rw [this]; trivial
  · rw [if_neg hcl]
    exact RepR.shift _ _ l 0 (by rw [Nat.add_zero]; rwa [Nat.zero_add] at h3)
theorem y_slice {t : TypeId} {x : Operand} {lo hi : Option Operand} (e : o.op = .slice t x lo hi none) (hx0 : okO x = true) (hl0 : ∀ y, lo = some y → okO y = true) (hh0 : ∀ y, hi = some y → okO y = true) (hr : Rel B s a w) (h : stp P (.slice t x lo hi none) s K) : Yields P o a w (Out B a K) := by
  obtain ⟨mu, F, c⟩ := hr
  simp only [stp] at h
  have hx := c.ev x hx0
  split at h
  · rename_i b hk hv
    rw [hv] at hx
    have hu := lkT_str hk
    obtain ⟨l, m, h1, h2, hK, hrun⟩ := bnd_run (P := P) c hl0 hh0 h
    have hr1 := hrun false b.size (Nat.le_refl _)
    refine y_val (v := .str (b.extract l m)) (x := .string (b.extract l m)) ?_ c ⟨rfl, by have := hx.2.1; rw [ByteArray.size_extract]; omega, fun _ => rfl⟩ hK
    simp only [execOp, e, hx.1, Option.map_none, Instr.sliceAt, Instr.slice, underlying, Sem.run_bind, run_program, Result.andThen_ok, hu, Sem.run_pure, Option.isSome_none, Bool.false_eq_true, if_false, hr1, Sem.run_ite]
  · rename_i sz rows d hk hv
    rw [hv] at hx
    split at h
    · rename_i g e' by_ he
      obtain ⟨rfl, h⟩ := h
      obtain ⟨⟨A, cap, hxv, k1, k2, k3⟩, _⟩ := hx
      obtain ⟨el, hu, ht, _, _⟩ := elT_slice he
      obtain ⟨l, m, h1, h2, hK, hrun⟩ := bnd_run (P := P) c hl0 hh0 h
      have hr1 := hrun true cap k1
      refine y_val (x := .slice (if cap = l then A else A.map (·.add (l * sz))) (m - l) (cap - l)) ?_ c (cut_sl h1 h2 k1 k2 k3) hK
      simp only [execOp, e, hxv, Option.map_none, Instr.sliceAt, Instr.slice, underlying, Sem.run_bind, run_program, Result.andThen_ok, hu, Sem.run_pure, hr1, (tyT_run ht w).2]
    · exact h.elim
  · rename_i i_o hk hv
    rw [hv] at hx
    split at h
    · rename_i g e' by_ ob he hob
      obtain ⟨hoe, hg, h⟩ := h
      obtain ⟨el, hu, ht, _, _⟩ := elT_slice he
      obtain ⟨l, m, h1, h2, hK, hrun⟩ := bnd_run (P := P) c hl0 hh0 h
      obtain ⟨G1, G2, m1, m2, m3⟩ := c.hp.at_ hob
      have hown := own_of hg m1 hx
      have st : Stp w w F G2 := ⟨rfl, rfl, rfl, Nat.le_refl _, fun _ _ _ => rfl, fun b _ h => by have := m3 b; omega, fun b => by have := m3 b; have := c.one b; omega, fun b hb => (c.blk b (by have := m3 b; omega)).1⟩
      have hx' := st.ext (B := B) (mu := mu) (mu' := mu) (n := s.nx) (n' := s.nx) (Nat.le_refl _) (fun _ _ => rfl)
      have c' := c.step (s' := ⟨s.tm, remh s.hp i_o, s.nx⟩) st (Nat.le_refl _) (fun _ _ => rfl) rfl (RepH.mono hx' _ _ m2 (fun _ _ => rfl))
      have hrd := rd_rep (C := cx B w mu F s.nx) (w := w) (ok := (cx B w mu G2 s.nx).ok) rfl hx'.ok (.own ob.e ob.rows ob.d) (a.eval x) G1 hown (fun b hb => by
        refine ⟨(c.blk b (by have := m3 b; omega)).1, ?_, ?_⟩
        · have := m3 b; have := c.one b; omega
        · rcases (c.blk b (by have := m3 b; omega)).2 with h | h
          · exact .inr (.inl h)
          · exact .inr (.inr h))
      obtain ⟨⟨A, cap, hxv, k1, k2, k3⟩, _⟩ := hrd
      have hlen : (rdR ob.rows).length = ob.rows.length := rdR_length _
      rw [hlen] at hxv
      have hr1 := hrun true cap (by omega)
      refine yields_of (v := .slice (if cap = l then A else A.map (·.add (l * ob.e))) (m - l) (cap - l)) (w' := w) ?_ ⟨_, _, hK, mu, G2, c', cut_sl (C := cx B w mu G2 s.nx) h1 (by omega) k1 k2 k3⟩
      simp only [execOp, e, hxv, Option.map_none, Instr.sliceAt, Instr.slice, underlying, Sem.run_bind, run_program, Result.andThen_ok, hu, Sem.run_pure, hr1, (tyT_run ht w).2, hoe]
    · exact h.elim
  · rename_i i_o hk hv
    rw [hv] at hx
    split at h
    · rename_i n e' row d' he hob
      obtain ⟨rfl, hnp, hlim, h⟩ := h
      obtain ⟨el, hu, ht⟩ := arT_spec he
      obtain ⟨l, m, h1, h2, hK, hrun⟩ := bnd_run (P := P) c hl0 hh0 h
      obtain ⟨G1, G2, m1, m2, m3⟩ := c.hp.at_ hob
      obtain ⟨_, ⟨b, hb, hxv⟩, _⟩ := hx
      have st : Stp w w F G2 := ⟨rfl, rfl, rfl, Nat.le_refl _, fun _ _ _ => rfl, fun b _ h => by have := m3 b; omega, fun b => by have := m3 b; have := c.one b; omega, fun b hb => (c.blk b (by have := m3 b; omega)).1⟩
      have hx' := st.ext (B := B) (mu := mu) (mu' := mu) (n := s.nx) (n' := s.nx) (Nat.le_refl _) (fun _ _ => rfl)
      have c' := c.step (s' := ⟨s.tm, remh s.hp i_o, s.nx⟩) st (Nat.le_refl _) (fun _ _ => rfl) rfl (RepH.mono hx' _ _ m2 (fun _ _ => rfl))
      obtain ⟨_, ⟨k1, _, _, k4, _⟩ | ⟨b', cc, tt, FR, k1, k2, k3, k4, k5, k6, k7, k8, k9⟩⟩ := m1
      · cases k4
      · obtain rfl : b = b' := Option.some.inj (hb.symm.trans k1)
        obtain ⟨F1, F2, q1, q2, q3, q4⟩ := k8
        obtain ⟨vs, r1, r2, r3, r4⟩ := RepB.to_list _ _ _ q2
        have r1' := npL_sel false r1 (by simpa using hnp)
        have q2' : RepB (cx B w mu F s.nx).pu row cc 0 F1 := RepB.of_list _ _ _ _ r3 r4 r1'
        have hown : Rep (cx B w mu F s.nx).pu (.own 1 (row.map fun c => [c]) []) (.slice (some ⟨b, 0, none⟩) row.length cc.size) G1 := by
          refine .inr ⟨b, cc.size, cc, tt, F1, by rw [List.length_map], ?_, by rw [List.length_map, q1]; exact hlim, k6, by rw [Nat.mul_one], RepO.chunk _ _ _ q2', fun x => ?_⟩
          · rw [List.length_map, k7, q1]
            exact Nat.le_mul_of_pos_left _ k4
          · have := k9 x
            have := q4 x
            have := q3 x
            omega
        have hrd := rd_rep (C := cx B w mu F s.nx) (w := w) (ok := (cx B w mu G2 s.nx).ok) rfl hx'.ok _ _ G1 hown (fun b hb => by
          refine ⟨(c.blk b (by have := m3 b; omega)).1, ?_, ?_⟩
          · have := m3 b; have := c.one b; omega
          · rcases (c.blk b (by have := m3 b; omega)).2 with h | h
            · exact .inr (.inl h)
            · exact .inr (.inr h))
        obtain ⟨⟨A, cap, hxs, j1, j2, j3⟩, _⟩ := hrd
        have hA : A = some ⟨b, 0, none⟩ := by injection hxs with h _ _; exact h.symm
        subst hA
        have hlen : (rdR (row.map fun c => [c])).length = row.length := rdR_len1 row
        have hr1 := hrun false e' (Nat.le_refl _)
        have ecut : (if e' = l then some (⟨b, 0, none⟩ : Addr) else (some (⟨b, 0, none⟩ : Addr)).map (·.add (l * 1))) = some (if e' = l then ⟨b, 0, none⟩ else Addr.add ⟨b, 0, none⟩ (l * 1)) := by split <;> rfl
        refine yields_of (v := .slice (some (if e' = l then ⟨b, 0, none⟩ else Addr.add ⟨b, 0, none⟩ (l * 1))) (m - l) (e' - l)) (w' := w) ?_ ⟨_, _, hK, mu, G2, c', ecut ▸ cut_sl (C := cx B w mu G2 s.nx) h1 (by rw [hlen, q1]; exact h2) (by rw [hlen, q1]; exact Nat.le_refl _) j2 j3⟩
        simp only [execOp, e, hxv, Option.map_none, Instr.sliceAt, Instr.sureAddr, underlying, Sem.run_bind, run_program, Result.andThen_ok, hu, Sem.run_pure, hr1, (tyT_run ht w).2, Nat.zero_mul, Nat.add_zero]
    · exact h.elim
  · exact h.elim

/-! ### Copying -/
theorem RowV.take {C : Cx} {e : Nat} : ∀ (k : Nat) (rows : List (List AV)) (us : List Value) (F : Foot), RowV C e rows us F → ∃ F', RowV C e (rows.take k) (us.take (k * e)) F' ∧ ∀ b, F' b ≤ F b := by
  intro k rows us F h
  have hput := h.put us.toArray 0 (fun j u hj => by rw [Nat.zero_add]; simpa using hj)
  rw [← List.take_append_drop k rows] at hput
  obtain ⟨F1, F2, h1, h2, h3⟩ := (RepO.append _ _ _ _).1 hput
  obtain ⟨vs, k1, k2⟩ := RepO.rowV _ _ _ h1
  have hlen : (us.take (k * e)).length = (rows.take k).length * e := by
    rw [List.length_take, h.len, List.length_take, ← Nat.mul_min_mul_right]
  have hvs : vs = us.take (k * e) := by
    apply List.ext_getElem?
    intro j
    by_cases hj : j < vs.length
    · have := k2 j vs[j] (List.getElem?_eq_getElem hj)
      rw [List.getElem?_eq_getElem hj, List.getElem?_take, if_pos (by rw [k1.len, List.length_take] at hj; have := Nat.mul_le_mul_right e (Nat.min_le_left k rows.length); omega)]
      rw [Nat.zero_add] at this
      simpa using this.symm
    · rw [List.getElem?_eq_none (by omega), List.getElem?_eq_none (by rw [hlen, ← k1.len]; omega)]
  exact ⟨F1, hvs ▸ k1, fun b => by have := h3 b; omega⟩
theorem y_copy {cl : Call} (e : o.op = .call cl) (hcal : cl.callee = .builtin .copy) (hargs0 : cl.args.toList.all okO = true) (hr : Rel B s a w) (h : stp P (.call cl) s K) : Yields P o a w (Out B a K) := by
  obtain ⟨mu, F, c⟩ := hr
  simp only [stp, hcal] at h
  split at h
  · rename_i x y t t' hargs hty
    have ha : cl.args = #[x, y] := by rw [← Array.toList_inj]; exact hargs
    have hT : cl.argTypes = #[t, t'] := by rw [← Array.toList_inj]; exact hty
    rw [hargs] at hargs0
    simp only [List.all_cons, List.all_nil, Bool.and_true, Bool.and_eq_true] at hargs0
    have hx := c.ev x hargs0.1
    split at h
    · rename_i g sz by_ i_o he hv
      rw [hv] at hx
      obtain ⟨el, hu, ht, _, hne⟩ := elT_slice he
      split at h
      · rename_i ob hob
        obtain ⟨hoe, hg, h⟩ := h
        obtain ⟨rows, h', us, Fs, Fh, hK, hlim, hrv, hh, hF, hlen, hfirst⟩ := src_sound (P := P) c hargs0.2 c.hp h
        obtain ⟨hob', hK⟩ := hK
        obtain ⟨hlt, hxv, _⟩ := hx
        obtain ⟨G1, G2, m1, m2, m4, m3⟩ := RepH.put h' Fh i_o ob hh hob'
        have hmin : Nat.min rows.length ob.rows.length = min rows.length ob.rows.length := rfl
        have hwr : IntKind.i64.wrap ((min rows.length ob.rows.length : Nat) : Int) = ((min rows.length ob.rows.length : Nat) : Int) := wrap_i64 (by unfold In64; unfold lim at hlim; omega)
        rcases m1.2 with ⟨q1, q2, q3, q4, q5⟩ | ⟨b, cc, bt, FR, q1, q2, q3, q4, q5, q6, q7, q8, q9⟩
        · have hxv' : a.eval x = .slice none 0 0 := by rw [hxv, q1, q2, q3]; rfl
          have st : Stp w w F (fun b => G1 b + G2 b) := ⟨rfl, rfl, rfl, Nat.le_refl _, fun _ _ _ => rfl, fun b _ h => by have := m2 b; have := hF b; show G1 b + G2 b = 0; omega, fun b => by have := m2 b; have := hF b; have := c.one b; show G1 b + G2 b ≤ 1; omega, fun b hb => (c.blk b (by have := m2 b; have := hF b; have h2 : G1 b + G2 b ≠ 0 := hb; omega)).1⟩
          have hx' := st.ext (B := B) (mu := mu) (mu' := mu) (n := s.nx) (n' := s.nx) (Nat.le_refl _) (fun _ _ => rfl)
          have hh' := m3 (cx B w mu (fun b => G1 b + G2 b) s.nx) ⟨ob.e, rows.take ob.rows.length ++ ob.rows.drop rows.length, ob.d, false⟩ G1 ⟨hlt, .inl ⟨q1, q2, q3, by rw [q4]; simp, q5⟩⟩ ⟨hx', fun _ _ => rfl⟩
          refine yields_of (v := .int .i64 (min rows.length ob.rows.length : Nat)) (w' := w) ?_ ⟨_, _, hK, mu, _, c.step (s' := ⟨s.tm, _, s.nx⟩) st (Nat.le_refl _) (fun _ _ => rfl) rfl hh', rep_int hwr⟩
          simp only [execOp, e, resolve, hcal, ha, hT, invoke, builtin, Builtin.copy_, Sem.run_bind, Sem.run_pure, Result.andThen_ok, List.map_toArray, List.map_cons, List.map_nil, hxv']
          simp [run_underlying hu, hlen, (tyT_run ht w).2, hfirst w 0 rfl (Nat.zero_le _), goInt, q4]
        · rw [hg] at q8
          rw [hoe] at q3 q7 q8
          have hxv' : a.eval x = .slice (some ⟨b, 0, none⟩) ob.rows.length (mu i_o).cap := by rw [hxv, q1, q2]; rfl
          obtain ⟨olds, o1, o2⟩ := RepO.rowV _ _ _ q8
          obtain ⟨Ft, t1, t2⟩ := RowV.take ob.rows.length _ _ _ hrv
          -- what stays of the old rows
          rw [← List.take_append_drop rows.length ob.rows] at q8
          obtain ⟨D1, D2, d1, d2, d3⟩ := (RepO.append _ _ _ _).1 q8
          let m := min rows.length ob.rows.length
          let vs := us.take (m * sz)
          have hvl : vs.length = m * sz := take_len hrv.len (Nat.min_le_left _ _)
          have hfit : 0 + vs.length ≤ cc.size := by
            rw [Nat.zero_add, hvl, q7]; exact Nat.mul_le_mul_right _ (Nat.le_trans (Nat.min_le_right _ _) q4)
          have hone : ∀ u ∈ vs, u.oneCell' = true := fun u hu => hrv.one u (List.mem_of_mem_take hu)
          have hst := storeCells_run (P := P) (w := w) (b := b) (o := 0) (vs := vs) q6 hfit hone
          let F' : Foot := fun y => ((if y = b then 1 else 0) + (Ft y + D2 y)) + G2 y
          have hF' : ∀ y, F' y ≤ F y := fun y => by have := m2 y; have := hF y; have := q9 y; have := t2 y; have := d3 y; simp only [F']; omega
          have hFb : F b ≠ 0 := by have := hF' b; simp [F'] at this; omega
          have st : Stp w (w.setCells b 0 vs) F F' := stp_write b _ vs hFb hF' c.one (fun y hy => (c.blk y hy).1)
          have hx' := st.ext (B := B) (mu := mu) (mu' := mu) (n := s.nx) (n' := s.nx) (Nat.le_refl _) (fun _ _ => rfl)
          have hoth : ∀ y, y ≠ b → (w.setCells b 0 vs).heap[y]? = w.heap[y]? := fun y hy => setCells_other _ _ _ _ _ hy
          have hbone : ∀ y, Ft y + D2 y + G2 y ≠ 0 → y ≠ b := fun y hy e => by
            subst e
            have h8 := c.one y; have := hF' y; simp [F'] at this; omega
          have hnew : RepO (cx B (w.setCells b 0 vs) mu F' s.nx).pu sz (rows.take ob.rows.length ++ ob.rows.drop rows.length) (wr cc 0 vs) 0 (fun y => Ft y + D2 y) := by
            refine (RepO.append _ _ _ _).2 ⟨Ft, D2, ?_, ?_, fun _ => rfl⟩
            · refine (t1.mono hx'.pu (fun y hy => hoth y (hbone y (by omega)))).put _ 0 (fun j u hj => ?_)
              have hjl : j < m * sz := by
                have := (List.getElem?_eq_some_iff.1 hj).1
                rw [List.length_take, hrv.len] at this
                have h5 : m * sz = min (ob.rows.length * sz) (rows.length * sz) := by rw [Nat.mul_min_mul_right, Nat.min_comm]
                omega
              exact wr_in vs cc 0 j u hfit (by
                show (us.take (m * sz))[j]? = some u
                rw [List.getElem?_take, if_pos hjl]; exact take_get hj)
            · have hlen1 : (rows.take ob.rows.length).length = m := by rw [List.length_take]; exact Nat.min_comm _ _
              rw [hlen1]
              have hlen2 : (ob.rows.take rows.length).length = m := by rw [List.length_take]
              rw [hlen2] at d2
              refine (RepO.congr _ _ _ (fun j hj1 hj2 => ?_) d2).mono hx'.pu _ _ _ _ _ (fun y hy => hoth y (hbone y (by omega)))
              exact wr_out _ _ _ _ (by rw [hvl]; omega)
          have hh' := m3 (cx B (w.setCells b 0 vs) mu F' s.nx) ⟨ob.e, rows.take ob.rows.length ++ ob.rows.drop rows.length, ob.d, false⟩ (fun y => (if y = b then 1 else 0) + (Ft y + D2 y))
            ⟨hlt, .inr ⟨b, wr cc 0 vs, bt, _, q1, by
                have : (rows.take ob.rows.length ++ ob.rows.drop rows.length).length = ob.rows.length := by rw [List.length_append, List.length_take, List.length_drop]; omega
                rw [this]; exact q2, by rw [hoe]; exact q3, by
                have : (rows.take ob.rows.length ++ ob.rows.drop rows.length).length = ob.rows.length := by rw [List.length_append, List.length_take, List.length_drop]; omega
                rw [this]; exact q4, by
                have : (rows.take ob.rows.length ++ ob.rows.drop rows.length).length = ob.rows.length := by rw [List.length_append, List.length_take, List.length_drop]; omega
                rw [this]; exact q5, setCells_heap _ _ _ _ _ _ _ q6, by rw [wr_size, hoe]; exact q7, by rw [hoe]; exact hnew, fun _ => rfl⟩⟩
            ⟨hx', fun y hy => hoth y (hbone y (by omega))⟩
          refine yields_of (v := .int .i64 (min rows.length ob.rows.length : Nat)) (w' := w.setCells b 0 vs) ?_ ⟨_, _, hK, mu, F', c.step (s' := ⟨s.tm, _, s.nx⟩) st (Nat.le_refl _) (fun _ _ => rfl) rfl hh', rep_int hwr⟩
          simp only [execOp, e, resolve, hcal, ha, hT, invoke, builtin, Builtin.copy_, Sem.run_bind, Sem.run_pure, Result.andThen_ok, List.map_toArray, List.map_cons, List.map_nil, hxv']
          simp only [show (#[Value.slice (some ⟨b, 0, none⟩) ob.rows.length (mu i_o).cap, a.eval y] : Array Value)[0]? = some (.slice (some ⟨b, 0, none⟩) ob.rows.length (mu i_o).cap) from rfl, show (#[Value.slice (some ⟨b, 0, none⟩) ob.rows.length (mu i_o).cap, a.eval y] : Array Value)[1]? = some (a.eval y) from rfl, show (#[t, t'] : Array TypeId)[0]? = some t from rfl, run_underlying hu, Sem.run_bind, Result.andThen_ok, hlen, (tyT_run ht w).2, hfirst w (Nat.min rows.length ob.rows.length) rfl (Nat.min_le_left _ _), hmin]
          have hst' : (storeCells ⟨b, 0, none⟩ (us.take (min rows.length ob.rows.length * sz)).toArray.toList).run P w = .ok () (w.setCells b 0 vs) := hst
          simp only [hst', Result.andThen_ok, Sem.run_pure, goInt]
      · exact h.elim
    · exact h.elim
  · exact h.elim

/-! ### Written out -/
theorem foldl_wr (off : Nat) : ∀ (l : List Value) (k : Nat) (c : Array Value), (l.zipIdx k).foldl (fun cs p => cs.setIfInBounds (off + p.2) p.1) c = wr c (off + k) l
  | [], k, c => rfl
  | v :: l, k, c => by
    rw [List.zipIdx_cons, List.foldl_cons, foldl_wr off l (k + 1), wr, Nat.add_assoc]
theorem fill_step {place : Nat → Option (Nat × Nat)} {c : Array Value} {i off n : Nat} {v : Value} {rest : List (Nat × Value)} (hp : place i = some (off, n)) (hn : v.cells.size = n) (hc : off + n ≤ c.size) :
    Instr.fill place c ((i, v) :: rest) = Instr.fill place (wr c off v.cells.toList) rest := by
  have : v.cells.zipIdx.foldl (fun cs (x : Value × Nat) => cs.setIfInBounds (off + x.2) x.1) c = wr c off v.cells.toList := by
    rw [← Array.foldl_toList, Array.toList_zipIdx, foldl_wr]; simp
  simp only [Instr.fill, hp, hn]
  rw [if_neg (by simp; omega)]
  exact congrArg (fun x => Instr.fill place x rest) this
theorem rowsW_sound {e : Nat} {mu : Nat → Hdr} {F : Foot} (c : Core B s a w mu F) : ∀ (parts : List (Nat × Operand)) (k : Nat) (h : Hp) (F0 : Foot) (K' : List (List AV) → Hp → Prop), (∀ p ∈ parts, okO p.2 = true) → RepH (cx B w mu F s.nx) h F0 → rowsW s e k parts h K' →
    ∃ (rows : List (List AV)) (h' : Hp) (us : List Value) (Fr Fh : Foot), K' rows h' ∧ RowV (cx B w mu F s.nx).pu e rows us Fr ∧ RepH (cx B w mu F s.nx) h' Fh ∧ (∀ b, F0 b = Fr b + Fh b) ∧ rows.length = parts.length ∧
      ∀ (c0 : Array Value), (k + parts.length) * e ≤ c0.size → ∃ c1, Instr.fill (fun i => some (i * e, e)) c0 (parts.map fun p => (p.1, a.eval p.2)) = some c1 ∧ c1.size = c0.size ∧ (∀ j, j < k * e → c1[j]? = c0[j]?) ∧ ∀ j u, us[j]? = some u → c1[k * e + j]? = some u
  | [], k, h, F0, K', ho, hh, hw => ⟨[], h, [], fun _ => 0, F0, hw, RowV.nil _ _, hh, fun b => by simp, rfl, fun c0 hc => ⟨c0, rfl, rfl, fun _ _ => rfl, fun j u hj => by simp at hj⟩⟩
  | (i, x) :: r, k, h, F0, K', ho, hh, hw => by
    simp only [rowsW] at hw
    split at hw
    · rename_i cl hki hcl
      obtain ⟨h1, h2, h3, h4⟩ := hw
      obtain rfl := Nat.eq_of_beq_eq_true hki
      have hx := cells_rep (c.ev x (ho (k, x) (by simp))) hcl
      obtain ⟨F1, F2, k1, k2, k3⟩ := absC_sound (cl.map AV.nb) h F0 _ (nbL_rep _ _ _ hx) hh
      obtain ⟨rows, h', us, Fr, Fh, m1, m2, m3, m4, m5, m6⟩ := rowsW_sound c r (k + 1) _ F2 _ (fun p hp => ho p (by simp [hp])) k2 h4
      have hrow : RepL (cx B w mu F s.nx).pu (absC h (cl.map AV.nb)).1 (a.eval x).cells.toList F1 := npL_rep (Ext.refl _) _ _ _ k1 (fun _ _ => rfl) h3
      have hl : (absC h (cl.map AV.nb)).1.length = e := by rw [absC_length, List.length_map]; exact h1
      have hvl : (a.eval x).cells.toList.length = e := by rw [RepL.length _ _ _ hx]; exact h1
      refine ⟨_, h', (a.eval x).cells.toList ++ us, fun b => F1 b + Fr b, Fh, m1, RowV.cons hrow hl (all_one_rep _ _ _ hx h2) m2 (fun _ => rfl), m3, fun b => by have := k3 b; have := m4 b; simp only; omega, by simp [m5], fun c0 hc => ?_⟩
      have hc' : (k + 1 + r.length) * e ≤ c0.size := by rw [List.length_cons, show k + (r.length + 1) = k + 1 + r.length by omega] at hc; exact hc
      have hke : (k + 1) * e ≤ (k + 1 + r.length) * e := Nat.mul_le_mul_right _ (by omega)
      have hk1 : (k + 1) * e = k * e + e := by rw [Nat.add_mul, Nat.one_mul]
      obtain ⟨c1, q1, q2, q3, q4⟩ := m6 (wr c0 (k * e) (a.eval x).cells.toList) (by rw [wr_size]; exact hc')
      refine ⟨c1, ?_, by rw [q2, wr_size], fun j hj => ?_, fun j u hj => ?_⟩
      · rw [List.map_cons, fill_step (off := k * e) (n := e) rfl (by simpa using hvl) (by omega)]
        exact q1
      · rw [q3 j (by omega), wr_out _ _ _ _ (by omega)]
      · by_cases hjl : j < (a.eval x).cells.toList.length
        · rw [List.getElem?_append_left hjl] at hj
          rw [q3 _ (by omega)]
          exact wr_in _ _ _ _ _ (by omega) hj
        · rw [List.getElem?_append_right (by omega)] at hj
          have := q4 _ u hj
          rwa [show (k + 1) * e + (j - (a.eval x).cells.toList.length) = k * e + j by omega] at this
    · exact hw.elim
theorem y_buildSlice {t n : Nat} {parts : Array (Nat × Operand)} (e : o.op = .buildSlice t n parts) (ho : ∀ p ∈ parts.toList, okO p.2 = true) (hr : Rel B s a w) (h : stp P (.buildSlice t n parts) s K) : Yields P o a w (Out B a K) := by
  obtain ⟨mu, F, c⟩ := hr
  simp only [stp] at h
  split at h
  · rename_i sz by_ z hm
    obtain ⟨hpl, hsz, h⟩ := h
    have hpl := Nat.eq_of_beq_eq_true hpl
    obtain ⟨el, i, v, hu, hi, hz, rfl, rfl, hne, hbe, hr0, hcs, hzl, hone⟩ := mkT_spec hm
    obtain ⟨rows, h', us, Fr, Fh, ⟨hlim, hK⟩, m2, m3, m4, m5, m6⟩ := rowsW_sound c parts.toList 0 s.hp F _ ho c.hp h
    let zero : Array Value := if n * i.size = 0 then #[] else v.cells
    obtain ⟨c1, q1, q2, q3, q4⟩ := m6 ((Array.range (n * i.size)).map (fun j => zero[j % zero.size]!)) (by rw [hpl]; simp)
    have hO := m2.put c1 0 (fun j u hj => by have := q4 j u hj; rwa [Nat.zero_mul] at this)
    obtain ⟨F', c'⟩ := c.new (t := el) (d := z) (cap := n) (g := false) hO m3 (fun b => by rw [m4 b]; exact Nat.le_refl _) (by omega) hlim (by rw [q2]; simp)
    have hrn : rows.length = n := by omega
    refine yields_of (v := .slice (some ⟨w.heap.size, 0, none⟩) n n) (w' := w.alloc (.cells c1 el)) ?_ ⟨_, _, hK, _, F', c', by simp [cx], by simp [cx, updMu, hrn], fun _ => rfl⟩
    have hpm : (parts.map (fun (p : Nat × Operand) => (p.1, a.eval p.2))).toList = parts.toList.map fun p => (p.1, a.eval p.2) := by simp
    have h24 : ¬ (n * i.size > 2 ^ 24) := by omega
    simp only [execOp, e, Instr.buildSlice, run_underlying hu, Sem.run_bind, Result.andThen_ok, sizeOf, typeInfo, run_program, hi, Sem.run_pure, Sem.run_ite, h24, if_false]
    by_cases h0 : n * i.size = 0
    · simp only [h0, if_true, Sem.run_pure, Result.andThen_ok]
      have q1' : Instr.fill (fun j => some (j * i.size, i.size)) ((Array.range 0).map (fun j => (#[] : Array Value)[j % (#[] : Array Value).size]!)) (parts.map (fun (p : Nat × Operand) => (p.1, a.eval p.2))).toList = some c1 := by
        rw [hpm, ← q1]; simp only [zero, h0, if_true]
      simp only [q1']
      simp [newRow]
    · simp only [h0, if_false, zeroValue, typeInfo, Sem.run_bind, run_program, Result.andThen_ok, hi, hz, Sem.run_pure]
      have q1' : Instr.fill (fun j => some (j * i.size, i.size)) ((Array.range (n * i.size)).map (fun j => v.cells[j % v.cells.size]!)) (parts.map (fun (p : Nat × Operand) => (p.1, a.eval p.2))).toList = some c1 := by
        rw [hpm, ← q1]; simp only [zero, h0, if_false]
      simp only [q1']
      simp [newRow]
  · exact h.elim
end Go.Av
end

section
/- Engine, part 11e: structs and arrays written out. -/
set_option linter.unusedVariables false
set_option linter.unusedSimpArgs false
set_option autoImplicit false
namespace Go.Av
variable {P : Program} [Known P] {B : Base P} {o : Oper} {s : St} {a : Act} {w : World} {K : St → AV → Prop}

theorem wr_list : ∀ (vs : List Value) (c : Array Value) (o : Nat), o + vs.length ≤ c.size → (wr c o vs).toList = c.toList.take o ++ vs ++ c.toList.drop (o + vs.length) := by
  intro vs c o h
  apply List.ext_getElem?
  intro j
  rw [Array.getElem?_toList]
  by_cases h1 : j < o
  · rw [wr_out vs c o j (.inl h1), List.append_assoc, List.getElem?_append_left (by simp; omega), List.getElem?_take, if_pos h1, Array.getElem?_toList]
  · by_cases h2 : j < o + vs.length
    · have hv : vs[j - o]? = some (vs[j - o]'(by omega)) := List.getElem?_eq_getElem (by omega)
      have := wr_in vs c o (j - o) _ h hv
      rw [show o + (j - o) = j by omega] at this
      rw [this, List.append_assoc, List.getElem?_append_right (by simp; omega), List.getElem?_append_left (by simp; omega), ← hv]
      congr 1; simp; omega
    · rw [wr_out vs c o j (.inr (by omega)), List.getElem?_append_right (by simp; omega), List.getElem?_drop, Array.getElem?_toList]
      congr 1; simp; omega
theorem RepL.app {C : Cx} : ∀ (l l' : List AV) (us us' : List Value), RepL C l us (fun _ => 0) → RepL C l' us' (fun _ => 0) → RepL C (l ++ l') (us ++ us') (fun _ => 0)
  | [], l', us, us', h, h' => by obtain ⟨rfl, _⟩ := h; exact h'
  | x :: l, l', us, us', h, h' => by
    obtain ⟨v, vs, F1, F2, rfl, h1, h2, h3⟩ := h
    obtain ⟨rfl, rfl⟩ := zero_split h3
    exact ⟨v, vs ++ us', _, _, rfl, h1, RepL.app l l' vs us' h2 h', fun _ => rfl⟩

theorem bldW_sound {t : TypeId} {mu : Nat → Hdr} {F : Foot} (c : Core B s a w mu F) {place : Nat → Option (Nat × Nat)} (hp : ∀ i off n, plT P t i = some (off, n) → place i = some (off, n)) :
    ∀ (parts : List (Nat × Operand)) (z : List AV) (K' : List AV → Prop) (c0 : Array Value), (∀ p ∈ parts, okO p.2 = true) → RepL (cx B w mu F s.nx) z c0.toList (fun _ => 0) → bldW P s t parts z K' →
    ∃ z' c1, K' z' ∧ Instr.fill place c0 (parts.map fun p => (p.1, a.eval p.2)) = some c1 ∧ RepL (cx B w mu F s.nx) z' c1.toList (fun _ => 0)
  | [], z, K', c0, ho, hz, h => ⟨z, c0, h, rfl, hz⟩
  | (i, x) :: r, z, K', c0, ho, hz, h => by
    simp only [bldW] at h
    split at h
    · rename_i off n cl hpl hcl
      obtain ⟨h1, h2, h3⟩ := h
      have hx := cells_rep (c.ev x (ho (i, x) (by simp))) hcl
      have hvl : (a.eval x).cells.toList.length = n := by rw [RepL.length _ _ _ hx]; exact h1
      have hcs : c0.size = z.length := by have := RepL.length _ _ _ hz; simpa using this
      have hz' : RepL (cx B w mu F s.nx) (setC z off cl) (wr c0 off (a.eval x).cells.toList).toList (fun _ => 0) := by
        rw [wr_list _ _ _ (by omega), setC, hvl, h1]
        exact RepL.app _ _ _ _ (RepL.app _ _ _ _ (RepL.take _ _ _ hz) hx) (repL_drop _ _ _ hz)
      obtain ⟨z', c1, q1, q2, q3⟩ := bldW_sound c hp r _ K' _ (fun p hp => ho p (by simp [hp])) hz' h3
      refine ⟨z', c1, q1, ?_, q3⟩
      rw [List.map_cons, fill_step (hp _ _ _ hpl) (by simpa using hvl) (by omega)]
      exact q2
    · exact h.elim

theorem mapM_run {α β : Type} {P : Program} [Known P] {w : World} (f : α → Sem β) (g : α → β) : ∀ (l : List α) , (∀ x ∈ l, (f x).run P w = .ok (g x) w) → (l.mapM f).run P w = .ok (l.map g) w
  | [], h => by simp
  | x :: l, h => by
    rw [List.mapM_cons]
    simp only [Sem.run_bind, h x (by simp), Result.andThen_ok, mapM_run f g l (fun y hy => h y (by simp [hy])), Sem.run_pure, List.map_cons]
theorem info_size {P : Program} {t : TypeId} {i : TypeInfo} (h : P.info? t = some i) (w : World) : (sizeOf t).run P w = .ok i.size w := by
  simp [sizeOf, typeInfo, h]
theorem tyT_size {P : Program} {t : TypeId} {g : Bool} {n : Nat} (h : tyT P t = some (g, n)) : ∃ i, P.info? t = some i ∧ i.size = n := by
  unfold tyT at h
  split at h
  · split at h
    · rename_i i hi
      simp only [Option.some.injEq, Prod.mk.injEq] at h
      exact ⟨i, hi, h.2⟩
    · simp at h
  · simp at h
theorem y_build {t : TypeId} {parts : Array (Nat × Operand)} (e : o.op = .build t parts) (ho : ∀ p ∈ parts.toList, okO p.2 = true) (hr : Rel B s a w) (h : stp P (.build t parts) s K) : Yields P o a w (Out B a K) := by
  obtain ⟨mu, F, c⟩ := hr
  simp only [stp] at h
  split at h
  · rename_i z hz
    obtain ⟨hb, h⟩ := h
    obtain ⟨v, hrun, hv, hlen, hone⟩ := zeroT_run hz
    have hpm : (parts.map (fun (p : Nat × Operand) => (p.1, a.eval p.2))).toList = parts.toList.map fun p => (p.1, a.eval p.2) := by simp
    have fin : ∀ (z' : List AV) (c1 : Array Value), K s (.agg z') → RepL (cx B w mu F s.nx) z' c1.toList (fun _ => 0) → (execOp a.eval o).run P w = .ok (.value (.agg c1)) w → Yields P o a w (Out B a K) := fun z' c1 k1 k2 k3 =>
      y_val (v := .agg z') k3 c ⟨c1.toList, by simp, k2⟩ k1
    unfold bldT at hb
    split at hb
    · rename_i fs hu
      have hinfo : ∀ f ∈ fs.toList, (P.info? f.type).isSome = true := List.all_eq_true.1 hb
      let g : Field → Nat × Nat := fun f => (f.offset, ((P.info? f.type).map (·.size)).getD 0)
      have hmap : ∀ w : World, (fs.mapM (fun f => do pure (f.offset, ← sizeOf f.type) : Field → Sem (Nat × Nat))).run P w = .ok (fs.toList.map g).toArray w := fun w => by
        rw [Array.mapM_eq_mapM_toList]
        have := mapM_run (P := P) (w := w) (fun f => do pure (f.offset, ← sizeOf f.type) : Field → Sem (Nat × Nat)) g fs.toList (fun f hf => by
          obtain ⟨i, hi⟩ := Option.isSome_iff_exists.1 (hinfo f hf)
          simp [g, hi, info_size hi])
        show Sem.run P (List.mapM _ fs.toList >>= fun l => pure l.toArray) w = _
        rw [Sem.run_bind, this]
        rfl
      obtain ⟨z', c1, q1, q2, q3⟩ := bldW_sound c (t := t) (place := fun i => (fs.toList.map g).toArray[i]?) (fun i off n hpl => by
        unfold plT at hpl
        rw [hu] at hpl
        simp only at hpl
        split at hpl
        · rename_i f hf
          split at hpl
          · rename_i gg m ht
            obtain ⟨inf, hi, hs⟩ := tyT_size ht
            simp only [Option.some.injEq, Prod.mk.injEq] at hpl
            simp [hf, g, hi, hs, hpl]
          · simp at hpl
        · simp at hpl) parts.toList z _ v.cells ho (hv _) h
      refine fin z' c1 q1 q3 ?_
      simp only [execOp, e, Instr.build, hrun, Sem.run_bind, Result.andThen_ok, run_underlying hu, hmap, hpm, q2, Sem.run_pure]
    · rename_i n el hu
      obtain ⟨inf, hi⟩ := Option.isSome_iff_exists.1 hb
      obtain ⟨z', c1, q1, q2, q3⟩ := bldW_sound c (t := t) (place := fun i => some (i * inf.size, inf.size)) (fun i off n hpl => by
        unfold plT at hpl
        rw [hu] at hpl
        simp only at hpl
        split at hpl
        · rename_i gg m ht
          obtain ⟨inf', hi', hs⟩ := tyT_size ht
          rw [hi] at hi'
          simp only [Option.some.injEq, Prod.mk.injEq] at hpl hi'
          simp only [hi', hs, hpl.2, Option.some.injEq, Prod.mk.injEq, and_true]
          rw [← hpl.2]; exact hpl.1
        · simp at hpl) parts.toList z _ v.cells ho (hv _) h
      refine fin z' c1 q1 q3 ?_
      simp only [execOp, e, Instr.build, hrun, Sem.run_bind, Result.andThen_ok, run_underlying hu, info_size hi, hpm, q2, Sem.run_pure]
    · exact absurd hb (by simp)
  · exact h.elim
end Go.Av
end

section
/- Engine, part 12: regions, code, functions. -/
set_option linter.unusedVariables false
set_option linter.unusedSimpArgs false
set_option autoImplicit false
namespace Go.Av
variable {P : Program}

/-- The constants among its operands are as they should be. -/
def okOo : Option Operand → Bool
  | none => true
  | some x => okO x
def okP : Op → Bool
  | .move x | .assign x | .box _ x | .load _ x | .nilCheck x | .unOp _ _ x | .makeInterface _ x | .extract x _ => okO x
  | .fieldAddr _ x _ | .field _ x _ | .convert _ _ x | .typeAssert x _ _ _ => okO x
  | .pick x y z => okO x && okO y && okO z
  | .store _ x y | .indexAddr _ x y | .index _ x y | .binOp _ _ x y _ | .makeSlice _ x y => okO x && okO y
  | .slice _ x lo hi _ => okO x && okOo lo && okOo hi
  | .build _ ps | .buildSlice _ _ ps => ps.toList.all fun p => okO p.2
  | .makeFunc _ _ caps => caps.toList.all okO
  | .call c => c.args.toList.all okO && (match c.callee with
    | .value f => okO f
    | .invoke r _ => okO r
    | _ => true)
  | _ => true
theorem stp_sound [Known P] {B : Base P} {o : Oper} {s : St} {a : Act} {w : World} {K : St → AV → Prop} (ho : okP o.op = true) (h : stp P o.op s K) (hr : Rel B s a w) : Yields P o a w (Out B a K) := by
  obtain ⟨dst, op, ty, pos, after, guard⟩ := o
  simp only at h ho
  cases op with
  | move x => exact yields_of (v := a.eval x) (w' := w) (by simp [execOp]) (y_ev ho hr h)
  | assign x => exact yields_of (v := a.eval x) (w' := w) (by simp [execOp]) (y_ev ho hr h)
  | pick x y z => simp only [okP, Bool.and_eq_true] at ho; exact y_pick rfl ho.1.1 ho.1.2 ho.2 hr h
  | alloc t => exact y_alloc rfl hr h
  | box t x => exact y_box rfl ho hr h
  | build t ps => exact y_build rfl (fun p hp => List.all_eq_true.1 ho p hp) hr h
  | buildSlice t n ps => exact y_buildSlice rfl (fun p hp => List.all_eq_true.1 ho p hp) hr h
  | load t x => exact y_load rfl ho hr h
  | store t p x => simp only [okP, Bool.and_eq_true] at ho; exact y_store rfl ho.1 ho.2 hr h
  | nilCheck x => exact y_nilCheck rfl ho hr h
  | fieldAddr t x f => exact y_fieldAddr rfl ho hr h
  | field t x f => exact y_field rfl ho hr h
  | indexAddr t x i => simp only [okP, Bool.and_eq_true] at ho; exact y_indexAddr rfl ho.1 ho.2 hr h
  | index t x i => simp only [okP, Bool.and_eq_true] at ho; exact y_index rfl ho.1 ho.2 hr h
  | slice t x lo hi mx =>
    simp only [okP, Bool.and_eq_true] at ho
    cases mx with
    | some _ => exact h.elim
    | none => exact y_slice rfl ho.1.1 (fun y hy => by have := ho.1.2; rw [hy] at this; exact this) (fun y hy => by have := ho.2; rw [hy] at this; exact this) hr h
  | binOp op t x y yt => simp only [okP, Bool.and_eq_true] at ho; exact y_binOp rfl ho.1 ho.2 hr h
  | unOp op t x => cases op with
    | not => exact y_not rfl ho hr h
    | neg => exact y_neg rfl ho hr h
    | _ => exact h.elim
  | convert src dst x => exact y_convert rfl ho h.1 hr h
  | makeSlice t n c => simp only [okP, Bool.and_eq_true] at ho; exact y_makeSlice rfl ho.1 ho.2 hr h
  | makeInterface t x => exact y_makeInterface rfl ho hr h
  | makeFunc fn first caps => exact y_makeFunc rfl ho hr h
  | typeAssert x xt t ok => cases ok with
    | true => exact y_typeAssert rfl ho hr h
    | false => exact h.elim
  | call cl =>
    simp only [okP, Bool.and_eq_true] at ho
    cases hc : cl.callee with
    | value f => rw [hc] at ho; exact y_callv rfl hc ho.2 ho.1 hr h
    | invoke r name => rw [hc] at ho; exact y_invoke rfl hc ho.2 ho.1 hr h
    | builtin b => cases b with
      | len => exact y_len rfl hc ho.1 hr h
      | append => exact y_append rfl hc ho.1 hr h
      | copy => exact y_copy rfl hc ho.1 hr h
      | min => exact y_min rfl hc ho.1 hr h
      | _ => simp only [stp, hc] at h
  | extract x i => exact y_extract rfl ho hr h
  | _ => exact h.elim

/-! ### Regions in the order of the text -/
def dstOf : List Oper → Nat → Option Tmp
  | [], _ => none
  | o :: _, 0 => o.dst
  | _ :: r, n + 1 => dstOf r n
theorem dstOf_eq : ∀ (l : List Oper) (j : Nat), dstOf l j = (l[j]?).bind (·.dst)
  | [], j => by simp [dstOf]
  | o :: l, 0 => rfl
  | o :: l, j + 1 => by simpa [dstOf] using dstOf_eq l j
/-- One operation that is wanted or not. -/
def stg (P : Program) [Known P] (go : Bool) (o : Oper) (s : St) (K : St → AV → Prop) : Prop := match go with
  | true => stp P o.op s K
  | false => K s (.tup [])
def wops (P : Program) [Known P] : List Oper → List Oper → St → (St → Prop) → Prop
  | [], _, s, k => k s
  | o :: r, ops, s, k => match o.guard with
    | none => stp P o.op s (fun s v => wops P r ops (s.put o.dst v) k)
    | some (j, x) => match dstOf ops j with
      | none => False
      | some t => match gtm s.tm t with
        | .tt => stg P x o s (fun s v => wops P r ops (s.put o.dst v) k)
        | .ff => stg P (!x) o s (fun s v => wops P r ops (s.put o.dst v) k)
        | .bool b => If b (stg P x o (s.put (some t) .tt) (fun s v => wops P r ops (s.put o.dst v) k)) (stg P (!x) o (s.put (some t) .ff) (fun s v => wops P r ops (s.put o.dst v) k))
        | .tup _ => stg P false o s (fun s v => wops P r ops (s.put o.dst v) k)
        | _ => False
def fitOp (n : Nat) (o : Oper) : Bool := (match o.dst with
  | some d => Nat.blt d n
  | none => true) && okP o.op
theorem put_size (a : Act) (d : Option Tmp) (v : Value) : (a.put d v).tmps.size = a.tmps.size := by
  cases d <;> simp [Act.put]

theorem wanted_of {ops : Array Oper} {a : Act} {j t : Nat} {x b : Bool} (hd : ((ops[j]?).bind (·.dst)) = some t) (ht : t < a.tmps.size) (hv : a.tmps.getD t undef = .bool b) (o : Oper) (hg : o.guard = some (j, x)) :
    Region.wanted o (yielded ops a.tmps) = (b == x) := by
  have h1 : a.tmps[t]? = some (.bool b) := by
    rw [Array.getElem?_eq_getElem ht]
    simp only [Array.getD, ht, dif_pos] at hv
    exact congrArg some hv
  unfold Region.wanted yielded
  rw [hg]
  simp only [hd, Option.bind_some, h1]
  cases b <;> cases x <;> rfl

theorem wanted_tup {ops : Array Oper} {a : Act} {j t : Nat} {x : Bool} {c : Array Value} (hd : ((ops[j]?).bind (·.dst)) = some t) (ht : t < a.tmps.size) (hv : a.tmps.getD t undef = .tuple c) (o : Oper) (hg : o.guard = some (j, x)) :
    Region.wanted o (yielded ops a.tmps) = false := by
  have h1 : a.tmps[t]? = some (.tuple c) := by
    rw [Array.getElem?_eq_getElem ht]
    simp only [Array.getD, ht, dif_pos] at hv
    exact congrArg some hv
  unfold Region.wanted yielded
  rw [hg]
  simp only [hd, Option.bind_some, h1]
  rfl

/-- A test known one way or the other. -/
theorem Rel.known [Known P] {B : Base P} {s : St} {a : Act} {w : World} (h : Rel B s a w) {t : Nat} (ht : t < a.tmps.size) {b : Bool} (hv : a.tmps.getD t undef = .bool b) (v : AV) (hq : v = if b then .tt else .ff) : Rel B (s.put (some t) v) a w := by
  obtain ⟨mu, F, c⟩ := h
  refine ⟨mu, F, c.defers, c.nx, c.mub, c.os, c.tape, c.output, c.size, c.old, c.one, c.blk, fun u => ?_, c.hp⟩
  simp only [St.put, gtm]
  cases hb : Nat.beq t u with
  | false => exact c.tm u
  | true =>
    obtain rfl := Nat.eq_of_beq_eq_true hb
    subst hq
    cases b with
    | true => exact ⟨hv, fun _ => rfl⟩
    | false => exact ⟨hv, fun _ => rfl⟩

theorem wpOps_step {ops : Array Oper} {Q : Exit → Act → World → Prop} {i : Nat} {rest : List Nat} {a : Act} {w : World} {o : Oper} (ho : ops[i]? = some o)
    (h : if Region.wanted o (yielded ops a.tmps) then o.wp P a w (wpOps P ops Q rest) Q else wpOps P ops Q rest (a.put o.dst undef) w) : wpOps P ops Q (i :: rest) a w := by
  simp only [wpOps, ho]
  split
  · rename_i hw; rw [if_pos hw] at h; exact .inl h
  · rename_i hw; rw [if_neg hw] at h; exact h
theorem wops_sound [Known P] {B : Base P} {ops : Array Oper} {Q : Exit → Act → World → Prop} {n : Nat} {k : St → Prop} (hQ : ∀ s a w, a.tmps.size = n → Rel B s a w → k s → Q .normal a w) (hfit : ops.toList.all (fitOp n) = true) :
    ∀ (l : List Oper) (i : Nat) (s : St) (a : Act) (w : World), (∀ j, l[j]? = ops[i + j]?) → a.tmps.size = n → Rel B s a w → wops P l ops.toList s k → wpOps P ops Q ((List.range l.length).map (i + ·)) a w
  | [], i, s, a, w, hl, hs, hr, h => hQ s a w hs hr h
  | o :: l, i, s, a, w, hl, hs, hr, h => by
    have h0 : ops[i]? = some o := by simpa using (hl 0).symm
    have hrange : (List.range (o :: l).length).map (i + ·) = i :: (List.range l.length).map (i + 1 + ·) := by
      rw [List.length_cons, List.range_succ_eq_map, List.map_cons, List.map_map]
      simp only [Nat.add_zero, List.cons.injEq, true_and]
      apply List.map_congr_left; intro x _; simp; omega
    rw [hrange]
    have hl' : ∀ j, l[j]? = ops[i + 1 + j]? := fun j => by have := hl (j + 1); simpa [Nat.add_assoc, Nat.add_comm 1 j] using this
    have hmem : o ∈ ops.toList := by
      obtain ⟨hi, he⟩ := Array.getElem?_eq_some_iff.1 h0
      exact he ▸ Array.getElem_mem_toList hi
    have hfo := List.all_eq_true.1 hfit o hmem
    have hd : ∀ t, o.dst = some t → t < a.tmps.size := fun t ht => by
      unfold fitOp at hfo; rw [ht, Bool.and_eq_true] at hfo; rw [hs]; exact Nat.le_of_ble_eq_true hfo.1
    have hok : okP o.op = true := by unfold fitOp at hfo; rw [Bool.and_eq_true] at hfo; exact hfo.2
    have go : ∀ (s' : St), Rel B s' a w → stp P o.op s' (fun s v => wops P l ops.toList (s.put o.dst v) k) → o.wp P a w (wpOps P ops Q ((List.range l.length).map (i + 1 + ·))) Q := fun s' hr' h' =>
      (stp_sound hok h' hr').wp fun v w' ⟨s1, v1, hk, hrv⟩ => wops_sound hQ hfit l (i + 1) _ _ w' hl' (by rw [put_size]; exact hs) (hrv.put o.dst hd) hk
    have skip : ∀ (s' : St), Rel B s' a w → wops P l ops.toList (s'.put o.dst (.tup [])) k → wpOps P ops Q ((List.range l.length).map (i + 1 + ·)) (a.put o.dst undef) w := fun s' hr' h' =>
      wops_sound hQ hfit l (i + 1) _ _ w hl' (by rw [put_size]; exact hs) (hr'.skip.put o.dst hd) h'
    refine wpOps_step h0 ?_
    simp only [wops] at h
    split at h
    · rename_i hg
      have hw : Region.wanted o (yielded ops a.tmps) = true := by unfold Region.wanted; rw [hg]
      rw [if_pos hw]; exact go s hr h
    · rename_i j x hg
      split at h
      · exact h.elim
      · rename_i t ht
        rw [dstOf_eq] at ht
        have hd' : ((ops[j]?).bind (·.dst)) = some t := by simpa using ht
        have htl : t < a.tmps.size := by
          rw [hs]
          cases hj : ops[j]? with
          | none => rw [hj] at hd'; simp at hd'
          | some oj =>
            rw [hj] at hd'
            have hm : oj ∈ ops.toList := by
              obtain ⟨hi, he⟩ := Array.getElem?_eq_some_iff.1 hj
              exact he ▸ Array.getElem_mem_toList hi
            have := List.all_eq_true.1 hfit oj hm
            unfold fitOp at this
            have hd'' : oj.dst = some t := by simpa using hd'
            rw [hd'', Bool.and_eq_true] at this; exact Nat.le_of_ble_eq_true this.1
        obtain ⟨mu, F, c⟩ := hr
        have htm := c.tm t
        have hr : Rel B s a w := ⟨mu, F, c⟩
        have stgo : ∀ (s' : St) (b : Bool), Rel B s' a w → a.tmps.getD t undef = .bool b → stg P (b == x) o s' (fun s v => wops P l ops.toList (s.put o.dst v) k) →
            if Region.wanted o (yielded ops a.tmps) then o.wp P a w (wpOps P ops Q ((List.range l.length).map (i + 1 + ·))) Q else wpOps P ops Q ((List.range l.length).map (i + 1 + ·)) (a.put o.dst undef) w := fun s' b hr' hb h' => by
          rw [wanted_of hd' htl hb o hg]
          cases hbx : (b == x) with
          | true => rw [hbx] at h'; simp only [if_true]; exact go s' hr' h'
          | false => rw [hbx] at h'; simp only [Bool.false_eq_true, if_false]; exact skip s' hr' h'
        split at h
        · rename_i hv
          rw [hv] at htm
          refine stgo s true hr htm.1 ?_
          cases x <;> exact h
        · rename_i hv
          rw [hv] at htm
          refine stgo s false hr htm.1 ?_
          cases x <;> exact h
        · rename_i b hv
          rw [hv] at htm
          cases b with
          | true =>
            refine stgo _ true (hr.known htl htm.1 .tt rfl) htm.1 ?_
            have := h.t rfl
            cases x <;> exact this
          | false =>
            refine stgo _ false (hr.known htl htm.1 .ff rfl) htm.1 ?_
            have := h.f rfl
            cases x <;> exact this
        · rename_i l hv
          rw [hv] at htm
          obtain ⟨cs, htm, _⟩ := htm
          rw [wanted_tup hd' htl htm o hg]
          simp only [Bool.false_eq_true, if_false]
          exact skip s hr h
        · exact h.elim

end Go.Av
end

section
/- Engine, part 16: what an operation makes hangs on its operands and on the heap alone. -/
set_option linter.unusedVariables false
set_option linter.unusedSimpArgs false
set_option autoImplicit false
namespace Go.Av
variable {P : Program}

theorem If.imp {b : Bool} {X Y X' Y' : Prop} (h : If b X Y) (hx : X → X') (hy : Y → Y') : If b X' Y' := ⟨fun e => hx (h.t e), fun e => hy (h.f e)⟩
theorem numK_mono {k : IntKind} {x : Int} {K K' : AV → Prop} (hK : ∀ v, K v → K' v) (h : numK k x K) : numK k x K' := by
  cases k <;> first | exact hK _ h | exact ⟨h.1, hK _ h.2⟩
theorem binI_mono {op : BinOp} {k k' : IntKind} {x y : Int} {K K' : AV → Prop} (hK : ∀ v, K v → K' v) (h : binI op k x k' y K) : binI op k x k' y K' := by
  cases op <;> first | exact ⟨h.1, numK_mono hK h.2⟩ | exact ⟨h.1, h.2.1, numK_mono hK h.2.2⟩ | exact ⟨h.1, h.2.1, hK _ h.2.2⟩ | exact ⟨h.1, hK _ h.2⟩
theorem eqK_mono : ∀ (l l' : List AV) (K K' : Bool → Prop), (∀ b, K b → K' b) → eqK l l' K → eqK l l' K' := by
  intro l
  induction l with
  | nil =>
    intro l' K K' hK h
    cases l' with
    | nil => exact hK _ h
    | cons y l' => exact h.elim
  | cons x l ih =>
    intro l' K K' hK h
    cases l' with
    | nil => cases x <;> exact h.elim
    | cons y l' =>
      cases x with
      | int k x =>
        cases y with
        | int k' y => exact ⟨h.1, ih l' _ _ (fun b hb => hK _ hb) h.2⟩
        | _ => exact h.elim
      | _ => cases y <;> exact h.elim
theorem bin_mono {op : BinOp} {t : TypeId} {cx cy : Bool} {a b : AV} {K K' : AV → Prop} (hK : ∀ v, K v → K' v) (h : bin P op t cx cy a b K) : bin P op t cx cy a b K' := by
  unfold bin at h ⊢
  split at h
  · exact binI_mono hK h
  · split at h
    · exact ⟨h.1, hK _ h.2⟩
    · exact hK _ h
    · exact hK _ h
    · exact h.elim
  · obtain ⟨h1, h2, h⟩ := h
    refine ⟨h1, h2, ?_⟩
    split at h
    · exact hK _ h
    · exact hK _ h
    · exact h.elim
  · obtain ⟨h1, h⟩ := h
    refine ⟨h1, ?_⟩
    split at h
    · exact hK _ h
    · exact hK _ h
    · exact h.elim
  · obtain ⟨h1, h⟩ := h
    refine ⟨h1, ?_⟩
    split at h
    · exact hK _ h
    · exact hK _ h
    · exact h.elim
  · obtain ⟨h1, h⟩ := h
    refine ⟨h1, ?_⟩
    split at h
    · exact eqK_mono _ _ _ _ (fun _ => hK _) h
    · exact eqK_mono _ _ _ _ (fun _ => hK _) h
    · exact h.elim
  · split at h
    · obtain ⟨h1, h⟩ := h
      refine ⟨h1, ?_⟩
      split at h
      · exact hK _ h
      · exact hK _ h
      · exact h.elim
    · exact h.elim
theorem bndW_congr {s s' : St} {lo hi : Option Operand} {n : Nat} {K K' : Nat → Nat → Prop} (hl : ∀ x, lo = some x → s'.ev x = s.ev x) (hh : ∀ x, hi = some x → s'.ev x = s.ev x) (hK : ∀ l h, K l h → K' l h) (h : bndW s lo hi n K) : bndW s' lo hi n K' := by
  unfold bndW at h ⊢
  split at h
  · exact hK _ _ h
  · rename_i a
    simp only [hl a rfl]
    split at h
    · exact ⟨h.1, h.2.1, hK _ _ h.2.2⟩
    · exact h.elim
  · rename_i a
    simp only [hh a rfl]
    split at h
    · exact ⟨h.1, h.2.1, hK _ _ h.2.2⟩
    · exact h.elim
  · rename_i a b
    simp only [hl a rfl, hh b rfl]
    split at h
    · exact ⟨h.1, h.2.1, h.2.2.1, hK _ _ h.2.2.2⟩
    · exact h.elim
theorem bldW_congr [Known P] {s s' : St} {t : TypeId} : ∀ (parts : List (Nat × Operand)) (z : List AV) (K K' : List AV → Prop), (∀ p ∈ parts, s'.ev p.2 = s.ev p.2) → (∀ l, K l → K' l) → bldW P s t parts z K → bldW P s' t parts z K'
  | [], z, K, K', he, hK, h => hK _ h
  | (i, x) :: r, z, K, K', he, hK, h => by
    simp only [bldW] at h ⊢
    have e := he (i, x) (by simp)
    simp only at e
    rw [e]
    split at h
    · exact ⟨h.1, h.2.1, bldW_congr r _ K K' (fun p hp => he p (by simp [hp])) hK h.2.2⟩
    · exact h.elim
theorem rowsW_congr {s s' : St} {e : Nat} : ∀ (parts : List (Nat × Operand)) (n : Nat) (h : Hp) (K K' : List (List AV) → Hp → Prop), (∀ p ∈ parts, s'.ev p.2 = s.ev p.2) → (∀ l h, K l h → K' l h) → rowsW s e n parts h K → rowsW s' e n parts h K'
  | [], n, h, K, K', he, hK, hw => hK _ _ hw
  | (i, x) :: r, n, h, K, K', he, hK, hw => by
    simp only [rowsW] at hw ⊢
    have e := he (i, x) (by simp)
    simp only at e
    rw [e]
    split at hw
    · exact ⟨hw.1, hw.2.1, hw.2.2.1, rowsW_congr r _ _ _ _ (fun p hp => he p (by simp [hp])) (fun _ _ hk => hK _ _ hk) hw.2.2.2⟩
    · exact hw.elim
theorem srcW_mono {s s' : St} {e : Nat} {y : AV} {h : Hp} {K K' : List (List AV) → Hp → Prop} (hK : ∀ l h, K l h → K' l h) (hw : srcW s e y h K) : srcW s' e y h K' := by
  unfold srcW at hw ⊢
  split at hw
  · exact hK _ _ hw
  · exact ⟨hw.1, fun hl => hK _ _ (hw.2 hl)⟩
  · split at hw
    · exact ⟨hw.1, hw.2.1, fun hl => hK _ _ (hw.2.2 hl)⟩
    · exact hw.elim
  · exact hw.elim
theorem CallW_congr [Known P] {f : FuncId} {args : List AV} {tm tm' : List (Nat × AV)} {hp : Hp} {nx : Nat} {K K' : St → AV → Prop} (hK : ∀ hp nx v, K ⟨tm, hp, nx⟩ v → K' ⟨tm', hp, nx⟩ v) (h : CallW P f args ⟨tm, hp, nx⟩ K) : CallW P f args ⟨tm', hp, nx⟩ K' := by
  cases h with
  | plain Q np en h k => exact .plain Q np en h fun r hq => ⟨(k r hq).1, (k r hq).2.1, hK _ _ _ (k r hq).2.2⟩
  | lent Q np en h k => exact .lent Q np en h fun r hq => ⟨(k r hq).1, (k r hq).2.1, (k r hq).2.2.1, hK _ _ _ (k r hq).2.2.2⟩
  | lend ρ n args' hin Q fu ke ha hh en h k => exact .lend ρ n args' hin Q fu ke ha hh en h fun r hout hq => (k r hout hq).elim fun N k => ⟨N, k.1, k.2.1, k.2.2.1, hK _ _ _ k.2.2.2⟩
theorem map_congr' {f g : Operand → AV} : ∀ (l : List Operand), (∀ x ∈ l, f x = g x) → l.map f = l.map g
  | [], h => rfl
  | x :: l, h => by rw [List.map_cons, List.map_cons, h x (by simp), map_congr' l (fun y hy => h y (by simp [hy]))]
theorem stp_congr [Known P] {op : Op} {tm tm' : List (Nat × AV)} {hp : Hp} {nx : Nat} {K K' : St → AV → Prop} (he : ∀ x ∈ op.operands, (⟨tm', hp, nx⟩ : St).ev x = (⟨tm, hp, nx⟩ : St).ev x)
    (hK : ∀ hp nx v, K ⟨tm, hp, nx⟩ v → K' ⟨tm', hp, nx⟩ v) (h : stp P op ⟨tm, hp, nx⟩ K) : stp P op ⟨tm', hp, nx⟩ K' := by
  have hks : ∀ v, K ⟨tm, hp, nx⟩ v → K' ⟨tm', hp, nx⟩ v := hK hp nx
  cases op with
  | move x => have e := he x (by simp [Op.operands]); simp only [stp, e] at h ⊢; exact hks _ h
  | assign x => have e := he x (by simp [Op.operands]); simp only [stp, e] at h ⊢; exact hks _ h
  | pick x y z =>
    have e := he x (by simp [Op.operands]); have e2 := he y (by simp [Op.operands]); have e3 := he z (by simp [Op.operands])
    simp only [stp, e, e2, e3] at h ⊢
    split at h
    · exact hks _ h
    · exact hks _ h
    · exact h.imp (hks _) (hks _)
    · exact h.elim
  | alloc t => simp only [stp] at h ⊢; split at h <;> simp_all
  | box t x => have e := he x (by simp [Op.operands]); simp only [stp, e] at h ⊢; split at h <;> simp_all
  | build t ps =>
    simp only [stp] at h ⊢
    split at h
    · exact ⟨h.1, bldW_congr _ _ _ _ (fun p hp => he p.2 (by simp [Op.operands]; exact ⟨p.1, by simpa using hp⟩)) (fun _ hk => hks _ hk) h.2⟩
    · exact h.elim
  | buildSlice t n ps =>
    simp only [stp] at h ⊢
    split at h
    · exact ⟨h.1, h.2.1, rowsW_congr _ _ _ _ _ (fun p hp => he p.2 (by simp [Op.operands]; exact ⟨p.1, by simpa using hp⟩)) (fun _ _ hk => ⟨hk.1, hK _ _ _ hk.2⟩) h.2.2⟩
    · exact h.elim
  | load t x =>
    have e := he x (by simp [Op.operands]); simp only [stp, e] at h ⊢
    split at h
    · split at h
      · exact ⟨h.1, h.2.1, hks _ h.2.2⟩
      · split at h
        · refine ⟨h.1, h.2.1, h.2.2.1, ?_⟩
          have h3 := h.2.2.2
          split at h3
          · exact hks _ h3
          · exact ⟨h3.1, hK _ _ _ h3.2⟩
        · exact h.elim
      · exact h.elim
    · exact h.elim
  | store t x y =>
    have e := he x (by simp [Op.operands]); have e2 := he y (by simp [Op.operands]); simp only [stp, e, e2] at h ⊢
    split at h
    · split at h
      · exact ⟨h.1, h.2.1, h.2.2.1, h.2.2.2.1, h.2.2.2.2.1, hK _ _ _ h.2.2.2.2.2⟩
      · exact h.elim
    · exact h.elim
  | nilCheck x => have e := he x (by simp [Op.operands]); simp only [stp, e] at h ⊢; split at h <;> first | exact hks _ h | exact h.elim
  | fieldAddr t x f =>
    have e := he x (by simp [Op.operands]); simp only [stp, e] at h ⊢
    split at h
    · split at h <;> first | exact hks _ h | exact h.elim
    · exact h.elim
  | field t x f =>
    have e := he x (by simp [Op.operands]); simp only [stp, e] at h ⊢
    split at h
    · exact ⟨h.1, hks _ h.2⟩
    · exact h.elim
  | indexAddr t x y =>
    have e := he x (by simp [Op.operands]); have e2 := he y (by simp [Op.operands]); simp only [stp, e, e2] at h ⊢
    split at h
    · split at h
      · exact ⟨h.1, h.2.1, h.2.2.1, hks _ h.2.2.2⟩
      · split at h
        · exact ⟨h.1, h.2.1, h.2.2.1, hks _ h.2.2.2⟩
        · exact h.elim
      · exact h.elim
    · split at h
      · exact ⟨h.1, h.2.1, hks _ h.2.2⟩
      · exact ⟨h.1, h.2.1, hks _ h.2.2⟩
      · exact h.elim
  | index t x y =>
    have e := he x (by simp [Op.operands]); have e2 := he y (by simp [Op.operands]); simp only [stp, e, e2] at h ⊢
    split at h
    · exact ⟨h.1, h.2.1, h.2.2.1, hks _ h.2.2.2⟩
    · exact ⟨h.1, h.2.1, h.2.2.1, hks _ h.2.2.2⟩
    · exact ⟨h.1, h.2.1, h.2.2.1, hks _ h.2.2.2⟩
    · exact h.elim
  | slice t x lo hi mx =>
    cases mx with
    | some _ => exact h.elim
    | none =>
      have e := he x (by simp [Op.operands]); simp only [stp, e] at h ⊢
      have hlo : ∀ y, lo = some y → (⟨tm', hp, nx⟩ : St).ev y = (⟨tm, hp, nx⟩ : St).ev y := fun y hy => he y (by simp [Op.operands, hy])
      have hhi : ∀ y, hi = some y → (⟨tm', hp, nx⟩ : St).ev y = (⟨tm, hp, nx⟩ : St).ev y := fun y hy => he y (by simp [Op.operands, hy])
      split at h
      · exact bndW_congr hlo hhi (fun _ _ hk => hks _ hk) h
      · split at h
        · exact ⟨h.1, bndW_congr hlo hhi (fun _ _ hk => hks _ hk) h.2⟩
        · exact h.elim
      · split at h
        · exact ⟨h.1, h.2.1, bndW_congr hlo hhi (fun _ _ hk => hK _ _ _ hk) h.2.2⟩
        · exact h.elim
      · split at h
        · exact ⟨h.1, h.2.1, h.2.2.1, bndW_congr hlo hhi (fun _ _ hk => hK _ _ _ hk) h.2.2.2⟩
        · exact h.elim
      · exact h.elim
  | binOp op t x y yt =>
    have e := he x (by simp [Op.operands]); have e2 := he y (by simp [Op.operands]); simp only [stp, e, e2] at h ⊢
    exact bin_mono hks h
  | unOp op t x =>
    have e := he x (by simp [Op.operands])
    cases op with
    | not => simp only [stp, e] at h ⊢; split at h <;> first | exact hks _ h | exact h.elim
    | neg =>
      simp only [stp, e] at h ⊢
      split at h
      · exact numK_mono hks h
      · exact h.elim
    | _ => exact h.elim
  | convert t t' x =>
    have e := he x (by simp [Op.operands]); simp only [stp, e] at h ⊢
    refine ⟨h.1, ?_⟩
    replace h := h.2
    split at h
    · exact hks _ h
    · exact hks _ h
    · exact ⟨h.1, h.2.1, hks _ h.2.2⟩
    · split at h
      · exact ⟨h.1, h.2.1, h.2.2.1, h.2.2.2.1, hks _ h.2.2.2.2⟩
      · exact h.elim
    · exact h.elim
  | makeSlice t x y =>
    have e := he x (by simp [Op.operands]); have e2 := he y (by simp [Op.operands]); simp only [stp, e, e2] at h ⊢
    split at h
    · exact ⟨h.1, h.2.1, h.2.2.1, hK _ _ _ h.2.2.2⟩
    · exact h.elim
  | makeInterface t x => have e := he x (by simp [Op.operands]); simp only [stp, e] at h ⊢; exact ⟨h.1, hks _ h.2⟩
  | makeFunc fn first caps =>
    have e := map_congr' caps.toList (fun x hx => he x (by simp [Op.operands]; exact .inr (by simpa using hx)))
    cases fn with
    | func f => simp only [stp, e] at h ⊢; exact ⟨h.1, hks _ h.2⟩
    | _ => exact h.elim
  | typeAssert x xt t ok =>
    have e := he x (by simp [Op.operands])
    cases ok with
    | false => exact h.elim
    | true =>
      simp only [stp, e] at h ⊢
      split at h
      · refine ⟨h.1, ?_⟩
        replace h := h.2
        split at h
        · exact hks _ h
        · split at h
          · exact hks _ h
          · exact h.elim
      · refine ⟨h.1, ?_⟩
        replace h := h.2
        split at h
        · exact hks _ h
        · exact h.elim
      · exact h.elim
  | call c =>
    have ea := map_congr' c.args.toList (fun x hx => he x (by simp [Op.operands, Call.operands]; exact .inr (by simpa using hx)))
    have ea' : ∀ x ∈ c.args.toList, (⟨tm', hp, nx⟩ : St).ev x = (⟨tm, hp, nx⟩ : St).ev x := fun x hx => he x (by simp [Op.operands, Call.operands]; exact .inr (by simpa using hx))
    obtain ⟨callee, args, argTypes⟩ := c
    simp only at ea ea'
    cases callee with
    | value f =>
      have e := he f (by simp [Op.operands, Call.operands])
      simp only [stp, e, ea] at h ⊢
      split at h
      · exact CallW_congr hK h
      · exact h.elim
    | invoke r name =>
      have e := he r (by simp [Op.operands, Call.operands])
      simp only [stp, e, ea] at h ⊢
      split at h
      · obtain ⟨f, v', h1, h2⟩ := h
        exact ⟨f, v', h1, CallW_congr hK h2⟩
      · exact h.elim
    | builtin b =>
      cases b with
      | len =>
        simp only [stp] at h ⊢
        split at h
        · rename_i x t hx ht
          rw [hx] at ea'
          simp only [ea' x (by simp)]
          split at h
          · exact fun hl => hks _ (h hl)
          · exact hks _ h
          · split at h
            · exact fun hl => hks _ (h hl)
            · exact h.elim
          · exact fun hl => hks _ (h hl)
          · exact h.elim
        · exact h.elim
      | min =>
        simp only [stp] at h ⊢
        split at h
        · rename_i x y hx
          rw [hx] at ea'
          simp only [ea' x (by simp), ea' y (by simp)]
          split at h
          · exact ⟨h.1, hks _ h.2⟩
          · exact h.elim
        · exact h.elim
      | append =>
        simp only [stp] at h ⊢
        split at h
        · rename_i x y t t' hx ht
          rw [hx] at ea'
          simp only [ea' x (by simp), ea' y (by simp)]
          split at h
          · exact srcW_mono (fun _ _ hk => ⟨hk.1, hK _ _ _ hk.2⟩) h
          · split at h
            · exact ⟨h.1, h.2.1, srcW_mono (fun _ _ hk => ⟨hk.1, hK _ _ _ hk.2⟩) h.2.2⟩
            · exact h.elim
          · exact h.elim
        · exact h.elim
      | copy =>
        simp only [stp] at h ⊢
        split at h
        · rename_i x y t t' hx ht
          rw [hx] at ea'
          simp only [ea' x (by simp), ea' y (by simp)]
          split at h
          · split at h
            · exact ⟨h.1, h.2.1, srcW_mono (fun _ _ hk => ⟨hk.1, hK _ _ _ hk.2⟩) h.2.2⟩
            · exact h.elim
          · exact h.elim
        · exact h.elim
      | _ => exact h.elim
  | extract x i =>
    have e := he x (by simp [Op.operands]); simp only [stp, e] at h ⊢
    split at h
    · exact ⟨h.1, hks _ h.2⟩
    · exact h.elim
  | _ => exact h.elim
end Go.Av
end

section
/- Engine, part 17: regions that draw their order. -/
set_option linter.unusedVariables false
set_option linter.unusedSimpArgs false
set_option autoImplicit false
namespace Go.Av
variable {P : Program}

/-! ### Operations that leave no trace -/
def Pk (K : AV → Prop) (s : St) (v : AV) : Prop := s.hp = [] ∧ s.nx = 0 ∧ K v
def PCall (P : Program) [Known P] (f : FuncId) (args : List AV) (K : AV → Prop) : Prop := ∃ r : AV, npL args = true ∧ r.top2 = true ∧ r.np = true ∧ r.pu = true ∧ Enters P f ∧ CallA P f (args.map AV.nbV) r ∧ K r
def lenP (P : Program) [Known P] (s : St) (xs : List Operand) (ts : List TypeId) (K : AV → Prop) : Prop := match xs, ts with
  | [x], [t] => match lkT P t, s.ev x with
    | 1, .sl _ rows _ => rows.length ≤ lim ∧ K (.int .i64 rows.length)
    | 1, .nils => K (.int .i64 0)
    | 2, .str b => b.size ≤ lim ∧ K (.int .i64 b.size)
    | _, _ => False
  | _, _ => False
def pureOp : Op → Bool
  | .move _ | .assign _ | .pick _ _ _ | .load _ _ | .nilCheck _ | .fieldAddr _ _ _ | .field _ _ _ | .indexAddr _ _ _ | .index _ _ _ | .slice _ _ _ _ _ => true
  | .binOp _ _ _ _ _ | .unOp _ _ _ | .convert _ _ _ | .build _ _ | .makeInterface _ _ | .makeFunc _ _ _ | .typeAssert _ _ _ _ | .extract _ _ => true
  | _ => false
/-- An operation that hangs on no object and makes none. -/
def pst (P : Program) [Known P] (op : Op) (s : St) (K : AV → Prop) : Prop := match op with
  | .call c => match c.callee with
    | .builtin .len => lenP P s c.args.toList c.argTypes.toList K
    | .value f => match s.ev f with
      | .fn g caps => PCall P g (c.args.toList.map s.ev ++ caps) K
      | _ => False
    | .invoke r name => match s.ev r with
      | .iface t v => ∃ f v', Meth P t name f v v' ∧ PCall P f (v' :: c.args.toList.map s.ev) K
      | _ => False
    | _ => False
  | op => pureOp op = true ∧ stp P op ⟨s.tm, [], 0⟩ (Pk K)

theorem instC_pu : ∀ (l : List AV) (n : Nat), puL l = true → instC n l = (l, [], n)
  | [], n, h => rfl
  | x :: l, n, h => by
    simp only [puL, Bool.and_eq_true] at h
    have ih := instC_pu l n h.2
    cases x <;> first | (exfalso; revert h; simp [AV.pu]; done) | simp only [instC, ih]
theorem instV_pu (x : AV) (n : Nat) (h : x.pu = true) : instV n x = (x, [], n) := by
  cases x with
  | agg l => simp only [instV, instC_pu l n h]
  | own _ _ _ => simp [AV.pu] at h
  | _ => rfl
theorem instT_pu : ∀ (l : List AV) (n : Nat), puL l = true → instT n l = (l, [], n)
  | [], n, h => rfl
  | x :: l, n, h => by
    simp only [puL, Bool.and_eq_true] at h
    simp only [instT, instV_pu x n h.1, instT_pu l n h.2, List.nil_append]
theorem inst_pu (x : AV) (n : Nat) (h : x.pu = true) : inst n x = (x, [], n) := by
  cases x with
  | tup l => simp only [inst, instT_pu l n h]
  | _ => exact instV_pu _ n h
theorem PCall.out [Known P] {f : FuncId} {args : List AV} {K : AV → Prop} (h : PCall P f args K) : ∃ v, K v ∧ ∀ (s : St) (K' : St → AV → Prop), K' s v → CallW P f args s K' := by
  obtain ⟨r, h1, h2, h3, h4, h5, h6, h7⟩ := h
  refine ⟨r, h7, fun s K' hk => .plain (fun r' => r' = r) h1 h5 h6 fun r' hr => ?_⟩
  subst hr
  exact ⟨h2, h3, by simpa [inst_pu r' s.nx h4] using hk⟩
theorem numK_out {k : IntKind} {x : Int} {K : AV → Prop} (h : numK k x K) : ∃ v, K v ∧ ∀ K', K' v → numK k x K' := by
  cases k <;> first | exact ⟨_, h, fun _ hk => hk⟩ | exact ⟨_, h.2, fun _ hk => ⟨h.1, hk⟩⟩
theorem binI_out {op : BinOp} {k k' : IntKind} {x y : Int} {K : AV → Prop} (h : binI op k x k' y K) : ∃ v, K v ∧ ∀ K', K' v → binI op k x k' y K' := by
  cases op <;> first
    | (obtain ⟨v, h1, h2⟩ := numK_out h.2; exact ⟨v, h1, fun _ hk => ⟨h.1, h2 _ hk⟩⟩)
    | (obtain ⟨v, h1, h2⟩ := numK_out h.2.2; exact ⟨v, h1, fun _ hk => ⟨h.1, h.2.1, h2 _ hk⟩⟩)
    | exact ⟨_, h.2.2, fun _ hk => ⟨h.1, h.2.1, hk⟩⟩
    | exact ⟨_, h.2, fun _ hk => ⟨h.1, hk⟩⟩
theorem eqK_out : ∀ (l l' : List AV) (K : Bool → Prop), eqK l l' K → ∃ b, K b ∧ ∀ K' : Bool → Prop, K' b → eqK l l' K' := by
  intro l
  induction l with
  | nil =>
    intro l' K h
    cases l' with
    | nil => exact ⟨_, h, fun _ hk => hk⟩
    | cons y l' => exact h.elim
  | cons x l ih =>
    intro l' K h
    cases l' with
    | nil => cases x <;> exact h.elim
    | cons y l' =>
      cases x with
      | int k x =>
        cases y with
        | int k' y =>
          obtain ⟨b, hb, hk⟩ := ih l' _ h.2
          exact ⟨_, hb, fun K' q => ⟨h.1, hk _ q⟩⟩
        | _ => exact h.elim
      | _ => cases y <;> exact h.elim
theorem bin_out {op : BinOp} {t : TypeId} {cx cy : Bool} {a b : AV} {K : AV → Prop} (h : bin P op t cx cy a b K) : ∃ v, K v ∧ ∀ K', K' v → bin P op t cx cy a b K' := by
  unfold bin at h ⊢
  split at h
  · exact binI_out h
  · split at h
    · exact ⟨_, h.2, fun _ hk => ⟨h.1, hk⟩⟩
    · exact ⟨_, h, fun _ hk => hk⟩
    · exact ⟨_, h, fun _ hk => hk⟩
    · exact h.elim
  · obtain ⟨h1, h2, h⟩ := h
    split at h
    · exact ⟨_, h, fun _ hk => ⟨h1, h2, hk⟩⟩
    · exact ⟨_, h, fun _ hk => ⟨h1, h2, hk⟩⟩
    · exact h.elim
  · obtain ⟨h1, h⟩ := h
    split at h
    · exact ⟨_, h, fun _ hk => ⟨h1, hk⟩⟩
    · exact ⟨_, h, fun _ hk => ⟨h1, hk⟩⟩
    · exact h.elim
  · obtain ⟨h1, h⟩ := h
    split at h
    · exact ⟨_, h, fun _ hk => ⟨h1, hk⟩⟩
    · exact ⟨_, h, fun _ hk => ⟨h1, hk⟩⟩
    · exact h.elim
  · obtain ⟨h1, h⟩ := h
    split at h
    · obtain ⟨b, hb, hk⟩ := eqK_out _ _ _ h
      exact ⟨_, hb, fun _ q => ⟨h1, hk _ q⟩⟩
    · obtain ⟨b, hb, hk⟩ := eqK_out _ _ _ h
      exact ⟨_, hb, fun _ q => ⟨h1, hk _ q⟩⟩
    · exact h.elim
  · split at h
    · obtain ⟨h1, h⟩ := h
      split at h
      · exact ⟨_, h, fun _ hk => ⟨h1, hk⟩⟩
      · exact ⟨_, h, fun _ hk => ⟨h1, hk⟩⟩
      · exact h.elim
    · exact h.elim
theorem bndW_out {s s' : St} {lo hi : Option Operand} {n : Nat} {K : Nat → Nat → Prop} (hl : ∀ x, lo = some x → s'.ev x = s.ev x) (hh : ∀ x, hi = some x → s'.ev x = s.ev x) (h : bndW s lo hi n K) : ∃ l u, K l u ∧ ∀ K' : Nat → Nat → Prop, K' l u → bndW s' lo hi n K' := by
  unfold bndW at h
  split at h
  · exact ⟨_, _, h, fun _ hk => hk⟩
  · rename_i a
    simp only [bndW, hl a rfl]
    split at h
    · exact ⟨_, _, h.2.2, fun _ hk => ⟨h.1, h.2.1, hk⟩⟩
    · exact h.elim
  · rename_i a
    simp only [bndW, hh a rfl]
    split at h
    · exact ⟨_, _, h.2.2, fun _ hk => ⟨h.1, h.2.1, hk⟩⟩
    · exact h.elim
  · rename_i a b
    simp only [bndW, hl a rfl, hh b rfl]
    split at h
    · exact ⟨_, _, h.2.2.2, fun _ hk => ⟨h.1, h.2.1, h.2.2.1, hk⟩⟩
    · exact h.elim
theorem bldW_out [Known P] {s s' : St} {t : TypeId} : ∀ (parts : List (Nat × Operand)) (z : List AV) (K : List AV → Prop), (∀ p ∈ parts, s'.ev p.2 = s.ev p.2) → bldW P s t parts z K → ∃ l, K l ∧ ∀ K' : List AV → Prop, K' l → bldW P s' t parts z K'
  | [], z, K, he, h => ⟨_, h, fun _ hk => hk⟩
  | (i, x) :: r, z, K, he, h => by
    have e := he (i, x) (by simp)
    simp only at e
    simp only [bldW, e] at h ⊢
    split at h
    · obtain ⟨l, h1, h2⟩ := bldW_out r _ K (fun p hp => he p (by simp [hp])) h.2.2
      exact ⟨l, h1, fun K' hk => ⟨h.1, h.2.1, h2 K' hk⟩⟩
    · exact h.elim
theorem ev_hp (tm : List (Nat × AV)) (hp hp' : Hp) (nx nx' : Nat) (x : Operand) : (⟨tm, hp, nx⟩ : St).ev x = (⟨tm, hp', nx'⟩ : St).ev x := by cases x <;> rfl
theorem pst_out' [Known P] {op : Op} {tm : List (Nat × AV)} {hp0 : Hp} {nx0 : Nat} {K : AV → Prop} (h : pst P op ⟨tm, hp0, nx0⟩ K) : ∃ v, K v ∧ ∀ (hp : Hp) (nx : Nat) (K' : St → AV → Prop), K' ⟨tm, hp, nx⟩ v → stp P op ⟨tm, hp, nx⟩ K' := by
  have e := ev_hp tm
  have em : ∀ (l : List Operand) hp hp' nx nx', l.map (⟨tm, hp, nx⟩ : St).ev = l.map (⟨tm, hp', nx'⟩ : St).ev := fun l _ _ _ _ => map_congr' l (fun x _ => e _ _ _ _ x)
  cases op with
  | call c =>
    obtain ⟨callee, args, argTypes⟩ := c
    cases callee with
    | value f =>
      simp only [pst] at h
      split at h
      · rename_i g caps hf
        obtain ⟨v, h1, h2⟩ := h.out
        refine ⟨v, h1, fun hp nx K' hk => ?_⟩
        simp only [stp, e hp hp0 nx nx0 f, hf, em _ hp hp0 nx nx0]
        exact h2 _ _ hk
      · exact h.elim
    | invoke r name =>
      simp only [pst] at h
      split at h
      · rename_i t v hf
        obtain ⟨f, v', hm, h⟩ := h
        obtain ⟨v, h1, h2⟩ := h.out
        refine ⟨v, h1, fun hp nx K' hk => ?_⟩
        simp only [stp, e hp hp0 nx nx0 r, hf, em _ hp hp0 nx nx0]
        exact ⟨f, v', hm, h2 _ _ hk⟩
      · exact h.elim
    | builtin b =>
      cases b with
      | len =>
        simp only [pst, lenP] at h
        split at h
        · rename_i x t hx ht
          simp only [stp, hx, ht]
          split at h
          · rename_i h1 h2
            exact ⟨_, h.2, fun hp nx K' hk => by simp only [e hp hp0 nx nx0 x, h1, h2]; exact fun _ => hk⟩
          · rename_i h1 h2
            exact ⟨_, h, fun hp nx K' hk => by simp only [e hp hp0 nx nx0 x, h1, h2]; exact hk⟩
          · rename_i h1 h2
            exact ⟨_, h.2, fun hp nx K' hk => by simp only [e hp hp0 nx nx0 x, h1, h2]; exact fun _ => hk⟩
          · exact h.elim
        · exact h.elim
      | _ => exact h.elim
  | move x => obtain ⟨_, _, _, h⟩ := h; exact ⟨_, h, fun hp nx K' hk => by simp only [stp, e hp [] nx 0]; exact hk⟩
  | assign x => obtain ⟨_, _, _, h⟩ := h; exact ⟨_, h, fun hp nx K' hk => by simp only [stp, e hp [] nx 0]; exact hk⟩
  | pick x y z =>
    obtain ⟨_, h⟩ := h
    simp only [stp] at h
    split at h
    · rename_i hx; exact ⟨_, h.2.2, fun hp nx K' hk => by simp only [stp, e hp [] nx 0, hx]; exact hk⟩
    · rename_i hx; exact ⟨_, h.2.2, fun hp nx K' hk => by simp only [stp, e hp [] nx 0, hx]; exact hk⟩
    · rename_i b hx
      cases b with
      | true => exact ⟨_, (h.t rfl).2.2, fun hp nx K' hk => by simp only [stp, e hp [] nx 0, hx]; exact ⟨fun _ => hk, fun h => Bool.noConfusion h⟩⟩
      | false => exact ⟨_, (h.f rfl).2.2, fun hp nx K' hk => by simp only [stp, e hp [] nx 0, hx]; exact ⟨fun h => Bool.noConfusion h, fun _ => hk⟩⟩
    · exact h.elim
  | build t ps =>
    obtain ⟨_, h⟩ := h
    simp only [stp] at h
    split at h
    · rename_i z hz
      obtain ⟨h0, h⟩ := h
      obtain ⟨l, h1, h2⟩ := bldW_out (s' := (⟨tm, [], 0⟩ : St)) _ _ _ (fun p hp => rfl) h
      refine ⟨_, h1.2.2, fun hp nx K' hk => ?_⟩
      simp only [stp, hz]
      exact ⟨h0, bldW_congr _ _ _ _ (fun p _ => e hp [] nx 0 p.2) (fun l hl => by subst hl; exact hk) (h2 (fun l' => l' = l) rfl)⟩
    · exact h.elim
  | load t x =>
    obtain ⟨_, h⟩ := h
    simp only [stp] at h
    split at h
    · rename_i g n ht
      split at h
      · rename_i l hx
        exact ⟨_, h.2.2.2.2, fun hp nx K' hk => by simp only [stp, ht, e hp [] nx 0 x, hx]; exact ⟨h.1, h.2.1, hk⟩⟩
      · simp [geth] at h
      · exact h.elim
    · exact h.elim
  | nilCheck x =>
    obtain ⟨_, h⟩ := h
    simp only [stp] at h
    split at h
    · rename_i l hx; exact ⟨_, h.2.2, fun hp nx K' hk => by simp only [stp, e hp [] nx 0, hx]; exact hk⟩
    · rename_i hx; exact ⟨_, h.2.2, fun hp nx K' hk => by simp only [stp, e hp [] nx 0, hx]; exact hk⟩
    · rename_i hx; exact ⟨_, h.2.2, fun hp nx K' hk => by simp only [stp, e hp [] nx 0, hx]; exact hk⟩
    · exact h.elim
  | fieldAddr t x f =>
    obtain ⟨_, h⟩ := h
    simp only [stp] at h
    split at h
    · rename_i ht
      split at h
      · rename_i hx; exact ⟨_, h.2.2, fun hp nx K' hk => by simp only [stp, ht, e hp [] nx 0, hx]; exact hk⟩
      · rename_i hx; exact ⟨_, h.2.2, fun hp nx K' hk => by simp only [stp, ht, e hp [] nx 0, hx]; exact hk⟩
      · exact h.elim
    · exact h.elim
  | field t x f =>
    obtain ⟨_, h⟩ := h
    simp only [stp] at h
    split at h
    · rename_i ht hx; exact ⟨_, h.2.2.2, fun hp nx K' hk => by simp only [stp, ht, e hp [] nx 0, hx]; exact ⟨h.1, hk⟩⟩
    · exact h.elim
  | indexAddr t x y =>
    obtain ⟨_, h⟩ := h
    simp only [stp] at h
    split at h
    · rename_i ht
      split at h
      · rename_i hx hy; exact ⟨_, h.2.2.2.2.2, fun hp nx K' hk => by simp only [stp, ht, e hp [] nx 0, hx, hy]; exact ⟨h.1, h.2.1, h.2.2.1, hk⟩⟩
      · simp [geth] at h
      · exact h.elim
    · rename_i ht
      split at h
      · rename_i h1 hx hy; exact ⟨_, h.2.2.2.2, fun hp nx K' hk => by simp only [stp, ht, e hp [] nx 0, h1, hx, hy]; exact ⟨h.1, h.2.1, hk⟩⟩
      · rename_i h1 hx hy; exact ⟨_, h.2.2.2.2, fun hp nx K' hk => by simp only [stp, ht, e hp [] nx 0, h1, hx, hy]; exact ⟨h.1, h.2.1, hk⟩⟩
      · exact h.elim
  | index t x y =>
    obtain ⟨_, h⟩ := h
    simp only [stp] at h
    split at h
    · rename_i h1 h2 h3; exact ⟨_, h.2.2.2.2.2, fun hp nx K' hk => by simp only [stp, e hp [] nx 0, h1, h2, h3]; exact ⟨h.1, h.2.1, h.2.2.1, hk⟩⟩
    · rename_i h1 h2 h3; exact ⟨_, h.2.2.2.2.2, fun hp nx K' hk => by simp only [stp, e hp [] nx 0, h1, h2, h3]; exact ⟨h.1, h.2.1, h.2.2.1, hk⟩⟩
    · rename_i h1 h2 h3; exact ⟨_, h.2.2.2.2.2, fun hp nx K' hk => by simp only [stp, e hp [] nx 0, h1, h2, h3]; exact ⟨h.1, h.2.1, h.2.2.1, hk⟩⟩
    · exact h.elim
  | slice t x lo hi mx =>
    obtain ⟨_, h⟩ := h
    cases mx with
    | some _ => exact h.elim
    | none =>
      simp only [stp] at h
      split at h
      · rename_i b h1 h2
        obtain ⟨l, u, h3, h4⟩ := bndW_out (s' := (⟨tm, [], 0⟩ : St)) (fun _ _ => rfl) (fun _ _ => rfl) h
        refine ⟨_, h3.2.2, fun hp nx K' hk => ?_⟩
        simp only [stp, e hp [] nx 0, h1, h2]
        exact bndW_congr (fun y _ => e hp [] nx 0 y) (fun y _ => e hp [] nx 0 y) (fun l' u' hl => by obtain ⟨rfl, rfl⟩ := hl; exact hk) (h4 (fun l' u' => l' = l ∧ u' = u) ⟨rfl, rfl⟩)
      · rename_i h1 h2
        split at h
        · rename_i h5
          obtain ⟨h0, h⟩ := h
          obtain ⟨l, u, h3, h4⟩ := bndW_out (s' := (⟨tm, [], 0⟩ : St)) (fun _ _ => rfl) (fun _ _ => rfl) h
          refine ⟨_, h3.2.2, fun hp nx K' hk => ?_⟩
          simp only [stp, e hp [] nx 0, h1, h2, h5]
          exact ⟨h0, bndW_congr (fun y _ => e hp [] nx 0 y) (fun y _ => e hp [] nx 0 y) (fun l' u' hl => by obtain ⟨rfl, rfl⟩ := hl; exact hk) (h4 (fun l' u' => l' = l ∧ u' = u) ⟨rfl, rfl⟩)⟩
        · exact h.elim
      · simp [geth] at h
      · simp [geth] at h
      · exact h.elim
  | binOp op t x y yt =>
    obtain ⟨_, h⟩ := h
    simp only [stp] at h
    obtain ⟨v, h1, h2⟩ := bin_out h
    exact ⟨v, h1.2.2, fun hp nx K' hk => by simp only [stp, e hp [] nx 0]; exact h2 _ hk⟩
  | unOp op t x =>
    obtain ⟨_, h⟩ := h
    cases op with
    | not =>
      simp only [stp] at h
      split at h
      · rename_i hx; exact ⟨_, h.2.2, fun hp nx K' hk => by simp only [stp, e hp [] nx 0, hx]; exact hk⟩
      · rename_i hx; exact ⟨_, h.2.2, fun hp nx K' hk => by simp only [stp, e hp [] nx 0, hx]; exact hk⟩
      · rename_i hx; exact ⟨_, h.2.2, fun hp nx K' hk => by simp only [stp, e hp [] nx 0, hx]; exact hk⟩
      · exact h.elim
    | neg =>
      simp only [stp] at h
      split at h
      · rename_i hx
        obtain ⟨v, h1, h2⟩ := numK_out h
        exact ⟨v, h1.2.2, fun hp nx K' hk => by simp only [stp, e hp [] nx 0, hx]; exact h2 _ hk⟩
      · exact h.elim
    | _ => exact h.elim
  | convert t t' x =>
    obtain ⟨_, h⟩ := h
    simp only [stp] at h
    obtain ⟨h0, h⟩ := h
    split at h
    · rename_i h1 h2; exact ⟨_, h.2.2, fun hp nx K' hk => by simp only [stp, e hp [] nx 0, h1, h2]; exact ⟨h0, hk⟩⟩
    · rename_i h1 h2 h3; exact ⟨_, h.2.2, fun hp nx K' hk => by simp only [stp, e hp [] nx 0, h1, h2, h3]; exact ⟨h0, hk⟩⟩
    · rename_i h1 h2 h3; exact ⟨_, h.2.2.2.2, fun hp nx K' hk => by simp only [stp, e hp [] nx 0, h1, h2, h3]; exact ⟨h0, h.1, h.2.1, hk⟩⟩
    · simp [geth] at h
    · exact h.elim
  | makeInterface t x =>
    obtain ⟨_, h⟩ := h
    simp only [stp] at h
    exact ⟨_, h.2.2.2, fun hp nx K' hk => by simp only [stp, e hp [] nx 0]; exact ⟨h.1, hk⟩⟩
  | makeFunc fn first caps =>
    obtain ⟨_, h⟩ := h
    cases fn with
    | func f =>
      simp only [stp] at h
      exact ⟨_, h.2.2.2, fun hp nx K' hk => by simp only [stp, em _ hp [] nx 0]; exact ⟨h.1, hk⟩⟩
    | _ => exact h.elim
  | typeAssert x xt t ok =>
    obtain ⟨_, h⟩ := h
    cases ok with
    | false => exact h.elim
    | true =>
      simp only [stp] at h
      split at h
      · rename_i hx
        obtain ⟨h0, h⟩ := h
        split at h
        · rename_i hb
          exact ⟨_, h.2.2, fun hp nx K' hk => by simp only [stp, e hp [] nx 0, hx, hb]; exact ⟨h0, hk⟩⟩
        · rename_i hb
          split at h
          · rename_i hz
            exact ⟨_, h.2.2, fun hp nx K' hk => by simp only [stp, e hp [] nx 0, hx, hb, hz]; exact ⟨h0, hk⟩⟩
          · exact h.elim
      · rename_i hx
        obtain ⟨h0, h⟩ := h
        split at h
        · rename_i hz
          exact ⟨_, h.2.2, fun hp nx K' hk => by simp only [stp, e hp [] nx 0, hx, hz]; exact ⟨h0, hk⟩⟩
        · exact h.elim
      · exact h.elim
  | extract x i =>
    obtain ⟨_, h⟩ := h
    simp only [stp] at h
    split at h
    · rename_i hx; exact ⟨_, h.2.2.2, fun hp nx K' hk => by simp only [stp, e hp [] nx 0, hx]; exact ⟨h.1, hk⟩⟩
    · exact h.elim
  | _ => exact absurd h.1 (by simp [pureOp])
theorem pst_out [Known P] {op : Op} {s : St} {K : AV → Prop} (h : pst P op s K) : ∃ v, K v ∧ ∀ (s' : St) (K' : St → AV → Prop), (∀ x ∈ op.operands, s'.ev x = s.ev x) → K' s' v → stp P op s' K' := by
  obtain ⟨tm, hp0, nx0⟩ := s
  obtain ⟨v, h1, h2⟩ := pst_out' h
  refine ⟨v, h1, fun s' K' he hk => ?_⟩
  obtain ⟨tm', hp', nx'⟩ := s'
  exact stp_congr (K := fun s v' => K' ⟨tm', s.hp, s.nx⟩ v') (fun x hx => (he x hx).trans (ev_hp _ _ _ _ _ x)) (fun _ _ _ hk => hk) (h2 hp' nx' _ hk)
end Go.Av
end

section
/- Engine, part 18: regions that draw their order, walked along a tree of orders. -/
set_option linter.unusedVariables false
set_option linter.unusedSimpArgs false
set_option autoImplicit false
namespace Go.Av
variable {P : Program}

/-- The same state, as far as it is asked. -/
structure Eqv (s s' : St) : Prop where
  hp : s'.hp = s.hp
  nx : s'.nx = s.nx
  tm : ∀ t, gtm s'.tm t = gtm s.tm t
theorem Eqv.refl (s : St) : Eqv s s := ⟨rfl, rfl, fun _ => rfl⟩
theorem Eqv.trans {a b c : St} (h : Eqv a b) (k : Eqv b c) : Eqv a c := ⟨k.hp.trans h.hp, k.nx.trans h.nx, fun t => (k.tm t).trans (h.tm t)⟩
theorem Eqv.symm {a b : St} (h : Eqv a b) : Eqv b a := ⟨h.hp.symm, h.nx.symm, fun t => (h.tm t).symm⟩
theorem gtm_put (s : St) (d : Tmp) (v : AV) (t : Nat) : gtm (s.put (some d) v).tm t = if d = t then v else gtm s.tm t := by
  simp only [St.put, gtm]
  by_cases e : d = t
  · subst e; rw [if_pos rfl, show Nat.beq d d = true from Nat.beq_refl d, cond_true]
  · rw [if_neg e, show Nat.beq d t = false from by cases hb : Nat.beq d t with | false => rfl | true => exact absurd (Nat.eq_of_beq_eq_true hb) e, cond_false]
theorem Eqv.put {s s' : St} (h : Eqv s s') (d : Option Tmp) (v : AV) : Eqv (s.put d v) (s'.put d v) := by
  cases d with
  | none => exact h
  | some d => exact ⟨h.hp, h.nx, fun t => by rw [gtm_put, gtm_put, h.tm t]⟩
theorem put_comm (s : St) {x y : Option Tmp} (v u : AV) (h : ∀ d, x = some d → y ≠ some d) : Eqv ((s.put x v).put y u) ((s.put y u).put x v) := by
  cases x with
  | none => exact Eqv.refl _
  | some d =>
    cases y with
    | none => exact Eqv.refl _
    | some e =>
      have hne : e ≠ d := fun q => h d rfl (by rw [q])
      refine ⟨rfl, rfl, fun t => ?_⟩
      rw [gtm_put, gtm_put, gtm_put, gtm_put]
      by_cases h1 : d = t
      · subst h1; rw [if_pos rfl, if_neg hne, if_pos rfl]
      · rw [if_neg h1, if_neg h1]
theorem put_known {s : St} {t : Nat} {b : Bool} (h : gtm s.tm t = .bool b) : Eqv s (s.put (some t) (.bool b)) := ⟨rfl, rfl, fun u => by
  rw [gtm_put]
  by_cases e : t = u
  · subst e; rw [if_pos rfl, h]
  · rw [if_neg e]⟩
theorem Rel.eqv [Known P] {B : Base P} {s s' : St} {a : Act} {w : World} (h : Rel B s a w) (e : Eqv s s') : Rel B s' a w := by
  obtain ⟨mu, F, c⟩ := h
  obtain ⟨tm, hp, nx⟩ := s
  obtain ⟨tm', hp', nx'⟩ := s'
  obtain ⟨rfl, rfl, e⟩ := e
  exact ⟨mu, F, c.defers, c.nx, c.mub, c.os, c.tape, c.output, c.size, c.old, c.one, c.blk, fun t => by have := c.tm t; rw [← e t] at this; exact this, c.hp⟩
def EqI (K : St → Prop) : Prop := ∀ s s', Eqv s s' → K s → K s'

/-- Whether an operation is wanted. -/
def gvl (ops : List Oper) (s : St) (o : Oper) : Option Bool := match o.guard with
  | none => some true
  | some (j, x) => match dstOf ops j with
    | none => none
    | some t => match gtm s.tm t with
      | .tt => some x
      | .ff => some (!x)
      | .bool b => some (b == x)
      | .tup _ => some false
      | _ => none
def aOp (P : Program) [Known P] (ops : List Oper) (o : Oper) (s : St) (K : St → Prop) : Prop := match gvl ops s o with
  | none => False
  | some true => stp P o.op s (fun s v => K (s.put o.dst v))
  | some false => K (s.put o.dst (.tup []))
theorem looks_ev {ops : Array Oper} {o : Oper} {s s' : St} (h : ∀ t ∈ o.looksAt ops, gtm s'.tm t = gtm s.tm t) : ∀ x ∈ o.op.operands, s'.ev x = s.ev x := by
  intro x hx
  cases x with
  | tmp t => exact h t (List.mem_append_left _ (List.mem_filterMap.2 ⟨.tmp t, by simpa using hx, rfl⟩))
  | _ => rfl
theorem looks_gvl {ops : Array Oper} {o : Oper} {s s' : St} (h : ∀ t ∈ o.looksAt ops, gtm s'.tm t = gtm s.tm t) : gvl ops.toList s' o = gvl ops.toList s o := by
  unfold gvl
  cases hg : o.guard with
  | none => rfl
  | some gx =>
    obtain ⟨j, x⟩ := gx
    simp only
    cases hd : dstOf ops.toList j with
    | none => rfl
    | some t =>
      have hd' : ((ops[j]?).bind (·.dst)) = some t := by rw [dstOf_eq] at hd; simpa using hd
      simp only [h t (List.mem_append_right _ (by rw [hg]; simp [hd']))]
theorem aOp_congr [Known P] {ops : Array Oper} {o : Oper} {s s' : St} {K K' : St → Prop} (ht : ∀ t ∈ o.looksAt ops, gtm s'.tm t = gtm s.tm t) (hh : s'.hp = s.hp) (hn : s'.nx = s.nx)
    (hK : ∀ hp nx v, K ((⟨s.tm, hp, nx⟩ : St).put o.dst v) → K' ((⟨s'.tm, hp, nx⟩ : St).put o.dst v)) (h : aOp P ops.toList o s K) : aOp P ops.toList o s' K' := by
  obtain ⟨tm, hp, nx⟩ := s
  obtain ⟨tm', hp', nx'⟩ := s'
  simp only at hh hn
  subst hh hn
  unfold aOp at h ⊢
  rw [looks_gvl ht]
  split at h
  · exact h.elim
  · exact stp_congr (looks_ev ht) (fun _ _ _ hk => hK _ _ _ hk) h
  · exact hK _ _ _ h
theorem aOp_mono [Known P] {ops : Array Oper} {o : Oper} {s : St} {K K' : St → Prop} (hK : ∀ s, K s → K' s) (h : aOp P ops.toList o s K) : aOp P ops.toList o s K' := aOp_congr (fun _ _ => rfl) rfl rfl (fun _ _ _ hk => hK _ hk) h
theorem aOp_eqv [Known P] {ops : Array Oper} {o : Oper} {s s' : St} {K : St → Prop} (hi : EqI K) (e : Eqv s s') (h : aOp P ops.toList o s K) : aOp P ops.toList o s' K :=
  aOp_congr (fun t _ => e.tm t) e.hp e.nx (fun hp nx v hk => hi _ _ (Eqv.put (s := ⟨s.tm, hp, nx⟩) (s' := ⟨s'.tm, hp, nx⟩) ⟨rfl, rfl, e.tm⟩ _ _) hk) h

/-- It yields v, now and later. -/
def PY (P : Program) [Known P] (ops : Array Oper) (o : Oper) (s : St) (v : AV) : Prop := ∀ s', (∀ t ∈ o.looksAt ops, gtm s'.tm t = gtm s.tm t) → ∀ K : St → Prop, K (s'.put o.dst v) → aOp P ops.toList o s' K
theorem PY.of [Known P] {ops : Array Oper} {o : Oper} {s s' : St} {v : AV} (h : PY P ops o s v) (e : ∀ t ∈ o.looksAt ops, gtm s'.tm t = gtm s.tm t) : PY P ops o s' v := fun s2 e2 => h s2 (fun t ht => (e2 t ht).trans (e t ht))
theorem looks_put {ops : Array Oper} {o : Oper} {s : St} {d : Option Tmp} {v : AV} (h : ∀ x, d = some x → x ∉ o.looksAt ops) : ∀ t ∈ o.looksAt ops, gtm (s.put d v).tm t = gtm s.tm t := by
  intro t ht
  cases d with
  | none => rfl
  | some d => rw [gtm_put, if_neg (fun e => h d rfl (by rw [e]; exact ht))]

variable {md : Region.Mode}
def wAny (P : Program) [Known P] (md : Region.Mode) (ops : Array Oper) (k : St → Prop) : Nat → Array Bool → St → Prop
  | 0, listed, s => Region.ready md ops listed = [] ∧ k s
  | f + 1, listed, s => (Region.ready md ops listed = [] → k s) ∧ ∀ i ∈ Region.ready md ops listed, ∀ o, ops[i]? = some o → aOp P ops.toList o s (wAny P md ops k f (listed.setIfInBounds i true))
theorem wAny_eqv [Known P] {ops : Array Oper} {k : St → Prop} (hk : EqI k) : ∀ (f : Nat) (listed : Array Bool), EqI (wAny P md ops k f listed)
  | 0, listed => fun s s' e h => ⟨h.1, hk s s' e h.2⟩
  | f + 1, listed => fun s s' e h => ⟨fun hr => hk s s' e (h.1 hr), fun i hi o ho => aOp_eqv (wAny_eqv hk f _) e (h.2 i hi o ho)⟩
theorem aOp_put [Known P] {ops : Array Oper} {oi oj : Oper} {s : St} {v : AV} {K : St → Prop} (hap : oi.apart ops oj = true) (hy : PY P ops oi s v) (hK : EqI K) (h : aOp P ops.toList oj (s.put oi.dst v) K) :
    aOp P ops.toList oj s (fun s1 => PY P ops oi s1 v ∧ K (s1.put oi.dst v)) := by
  obtain ⟨h1, h2, h3⟩ := Oper.apart_spec hap
  refine aOp_congr (s := s.put oi.dst v) (fun t ht => (looks_put h1 t ht).symm) ?_ ?_ (fun hp nx u hk => ⟨?_, ?_⟩) h
  · cases oi.dst <;> rfl
  · cases oi.dst <;> rfl
  · exact hy.of (fun t ht => looks_put (s := ⟨s.tm, hp, nx⟩) h3 t ht)
  · refine hK _ _ ?_ hk
    have : (⟨(s.put oi.dst v).tm, hp, nx⟩ : St) = (⟨s.tm, hp, nx⟩ : St).put oi.dst v := by cases oi.dst <;> rfl
    rw [this]
    exact put_comm _ v u h2
theorem wAny_first [Known P] {ops : Array Oper} {k : St → Prop} (hk : EqI k) {i : Nat} {oi : Oper} {v : AV} (hi : ops[i]? = some oi) :
    ∀ (fuel : Nat) (listed : Array Bool) (s : St),
      (∀ j oj, ops[j]? = some oj → j ≠ i → listed.getD j true = false → (∀ e ∈ oj.after, Region.binds md e = true → e.on ≠ i) → oi.apart ops oj = true) →
      i ∈ Region.ready md ops listed → PY P ops oi s v →
      wAny P md ops k fuel (listed.setIfInBounds i true) (s.put oi.dst v) → wAny P md ops k (fuel + 1) listed s := by
  intro fuel
  induction fuel with
  | zero =>
    intro listed s _ hr hy H
    refine ⟨fun h => (by rw [h] at hr; cases hr), fun j hj o ho => ?_⟩
    by_cases hji : j = i
    · subst hji
      obtain rfl : oi = o := Option.some.inj (hi.symm.trans ho)
      exact hy s (fun _ _ => rfl) _ H
    · have := ready_mono hj hji
      rw [H.1] at this
      cases this
  | succ fuel ih =>
    intro listed s hfree hr hy H
    refine ⟨fun h => (by rw [h] at hr; cases hr), fun j hj oj hoj => ?_⟩
    by_cases hji : j = i
    · subst hji
      obtain rfl : oi = oj := Option.some.inj (hi.symm.trans hoj)
      exact hy s (fun _ _ => rfl) _ H
    · have h1 := H.2 j (ready_mono hj hji) oj hoj
      obtain ⟨hjun, oj', hoj', hall⟩ := mem_ready.1 hj
      obtain rfl : oj = oj' := Option.some.inj (hoj.symm.trans hoj')
      have hnot : ∀ e ∈ oj.after, Region.binds md e = true → e.on ≠ i := fun e he hb heq => by
        have h1 := hall e he hb
        have h0 := (mem_ready.1 hr).1
        rw [heq] at h1
        rcases Nat.lt_or_ge i listed.size with h' | h'
        · simp [h'] at h0 h1; rw [h0] at h1; cases h1
        · simp [Array.getElem?_eq_none h'] at h1
      have h2 := aOp_put (hfree j oj hoj hji hjun hnot) hy (wAny_eqv hk _ _) h1
      have hfree' : ∀ k ok, ops[k]? = some ok → k ≠ i → (listed.setIfInBounds j true).getD k true = false →
          (∀ e ∈ ok.after, Region.binds md e = true → e.on ≠ i) → oi.apart ops ok = true := fun k ok hk hki hun hno => by
        refine hfree k ok hk hki ?_ hno
        by_cases hjk : j = k
        · subst hjk; exact hjun
        · rw [getD_set_ne true hjk] at hun; exact hun
      refine aOp_mono (fun s' h3 => ih (listed.setIfInBounds j true) s' hfree' (ready_mono hr (Ne.symm hji)) h3.1 ?_) h2
      rw [Array.setIfInBounds_comm _ _ hji]
      exact h3.2

theorem stp_mono [Known P] {op : Op} {s : St} {K K' : St → AV → Prop} (hK : ∀ s v, K s v → K' s v) (h : stp P op s K) : stp P op s K' := by
  obtain ⟨tm, hp, nx⟩ := s
  exact stp_congr (fun _ _ => rfl) (fun _ _ _ hk => hK _ _ hk) h
/-! ### From states to memory -/
theorem gvl_real [Known P] {B : Base P} {ops : Array Oper} {s : St} {a : Act} {w : World} {o : Oper} {g : Bool} {n : Nat} (hfit : ops.toList.all (fitOp n) = true) (hs : a.tmps.size = n) (hr : Rel B s a w) (h : gvl ops.toList s o = some g) :
    Region.wanted o (yielded ops a.tmps) = g := by
  unfold gvl at h
  split at h
  · rename_i hg
    obtain rfl := Option.some.inj h
    unfold Region.wanted; rw [hg]
  · rename_i j x hg
    split at h
    · cases h
    · rename_i t ht
      rw [dstOf_eq] at ht
      have hd' : ((ops[j]?).bind (·.dst)) = some t := by simpa using ht
      have htl : t < a.tmps.size := by
        rw [hs]
        cases hj : ops[j]? with
        | none => rw [hj] at hd'; simp at hd'
        | some oj =>
          rw [hj] at hd'
          have hm : oj ∈ ops.toList := by
            obtain ⟨hi, he⟩ := Array.getElem?_eq_some_iff.1 hj
            exact he ▸ Array.getElem_mem_toList hi
          have := List.all_eq_true.1 hfit oj hm
          unfold fitOp at this
          have hd'' : oj.dst = some t := by simpa using hd'
          rw [hd'', Bool.and_eq_true] at this; exact Nat.le_of_ble_eq_true this.1
      obtain ⟨mu, F, c⟩ := hr
      have htm := c.tm t
      split at h
      · rename_i hv
        rw [hv] at htm
        rw [wanted_of hd' htl htm.1 o hg]
        obtain rfl := Option.some.inj h
        cases x <;> rfl
      · rename_i hv
        rw [hv] at htm
        rw [wanted_of hd' htl htm.1 o hg]
        obtain rfl := Option.some.inj h
        cases x <;> rfl
      · rename_i b hv
        rw [hv] at htm
        rw [wanted_of hd' htl htm.1 o hg]
        exact Option.some.inj h
      · rename_i l hv
        rw [hv] at htm
        obtain ⟨cs, htm, _⟩ := htm
        rw [wanted_tup hd' htl htm o hg]
        exact Option.some.inj h
      · cases h
theorem wAny_sound [Known P] {B : Base P} {ops : Array Oper} {Q : Exit → Act → World → Prop} {n : Nat} {k : St → Prop} (hQ : ∀ s a w, a.tmps.size = n → Rel B s a w → k s → Q .normal a w) (hfit : ops.toList.all (fitOp n) = true) :
    ∀ (f : Nat) (listed : Array Bool) (s : St) (a : Act) (w : World), a.tmps.size = n → Rel B s a w → wAny P md ops k f listed s → wpAny P md ops Q f listed a w
  | 0, listed, s, a, w, hs, hr, h => ⟨h.1, hQ s a w hs hr h.2⟩
  | f + 1, listed, s, a, w, hs, hr, h => by
    refine ⟨fun he => hQ s a w hs hr (h.1 he), fun i hi => ?_⟩
    obtain ⟨_, o, ho, _⟩ := mem_ready.1 hi
    have hk := h.2 i hi o ho
    have hmem : o ∈ ops.toList := by
      obtain ⟨hi, he⟩ := Array.getElem?_eq_some_iff.1 ho
      exact he ▸ Array.getElem_mem_toList hi
    have hfo := List.all_eq_true.1 hfit o hmem
    have hd : ∀ t, o.dst = some t → t < a.tmps.size := fun t ht => by
      unfold fitOp at hfo; rw [ht, Bool.and_eq_true] at hfo; rw [hs]; exact Nat.le_of_ble_eq_true hfo.1
    have hok : okP o.op = true := by unfold fitOp at hfo; rw [Bool.and_eq_true] at hfo; exact hfo.2
    unfold wpOp
    simp only [ho]
    unfold aOp at hk
    split at hk
    · exact hk.elim
    · rename_i hg
      rw [gvl_real hfit hs hr hg, if_pos rfl]
      exact .inl ((stp_sound hok hk hr).wp fun v w' ⟨s1, v1, hk1, hrv⟩ => wAny_sound hQ hfit f _ _ _ w' (by rw [put_size]; exact hs) (hrv.put o.dst hd) hk1)
    · rename_i hg
      rw [gvl_real hfit hs hr hg, if_neg (by simp)]
      exact wAny_sound hQ hfit f _ _ _ w (by rw [put_size]; exact hs) (hr.skip.put o.dst hd) hk

/-! ### Trees of orders -/
/-- 'take': this one first, it is apart from all others; 'alt': one of these first. -/
inductive Tr where
  | done
  | take (i : Nat) (t : Tr)
  | alt (i : Nat) (t r : Tr)
  | stop
def alts : Tr → List Nat
  | .alt i _ r => i :: alts r
  | _ => []
def okT (md : Region.Mode) (ops : Array Oper) : Bool → Tr → Nat → Array Bool → Bool
  | false, .done, _, listed => (Region.ready md ops listed).isEmpty
  | false, .take i t, f + 1, listed => (Region.ready md ops listed).contains i && Region.free md ops listed i && okT md ops false t f (listed.setIfInBounds i true)
  | false, .alt i t r, f + 1, listed => !(Region.ready md ops listed).isEmpty && (Region.ready md ops listed).all (fun j => (i :: alts r).contains j) && okT md ops false t f (listed.setIfInBounds i true) && okT md ops true r (f + 1) listed
  | true, .alt i t r, f + 1, listed => okT md ops false t f (listed.setIfInBounds i true) && okT md ops true r (f + 1) listed
  | true, .stop, _, _ => true
  | _, _, _, _ => false
/-- One operation, its test decided both ways. -/
def gOp (ops : List Oper) (o : Oper) (s : St) (go : Bool → St → Prop) : Prop := match o.guard with
  | none => go true s
  | some (j, x) => match dstOf ops j with
    | none => False
    | some t => match gtm s.tm t with
      | .tt => go x s
      | .ff => go (!x) s
      | .bool b => If b (go x (s.put (some t) (.bool true))) (go (!x) (s.put (some t) (.bool false)))
      | .tup _ => go false s
      | _ => False
def goP (P : Program) [Known P] (o : Oper) (K : St → Prop) (g : Bool) (s : St) : Prop := match g with
  | true => pst P o.op s (fun v => K (s.put o.dst v))
  | false => K (s.put o.dst (.tup []))
def goA (P : Program) [Known P] (o : Oper) (K : St → Prop) (g : Bool) (s : St) : Prop := match g with
  | true => stp P o.op s (fun s v => K (s.put o.dst v))
  | false => K (s.put o.dst (.tup []))
def wtr (P : Program) [Known P] (ops : List Oper) (k : St → Prop) : Tr → St → Prop
  | .done, s => k s
  | .take i t, s => match ops[i]? with
    | some o => gOp ops o s (goP P o (wtr P ops k t))
    | none => False
  | .alt i t r, s => (match ops[i]? with
    | some o => gOp ops o s (goA P o (wtr P ops k t))
    | none => False) ∧ wtr P ops k r s
  | .stop, _ => True
theorem gOp_sound {ops : List Oper} {o : Oper} {s : St} {go : Bool → St → Prop} (h : gOp ops o s go) : ∃ g s', gvl ops s o = some g ∧ Eqv s s' ∧ go g s' := by
  unfold gOp at h
  split at h
  · rename_i hg
    exact ⟨true, s, by unfold gvl; rw [hg], Eqv.refl _, h⟩
  · rename_i j x hg
    split at h
    · exact h.elim
    · rename_i t ht
      split at h
      · rename_i hv; exact ⟨x, s, by unfold gvl; simp only [hg, ht, hv], Eqv.refl _, h⟩
      · rename_i hv; exact ⟨!x, s, by unfold gvl; simp only [hg, ht, hv], Eqv.refl _, h⟩
      · rename_i b hv
        cases b with
        | true => exact ⟨x, _, by unfold gvl; simp only [hg, ht, hv]; cases x <;> rfl, put_known hv, h.t rfl⟩
        | false => exact ⟨!x, _, by unfold gvl; simp only [hg, ht, hv]; cases x <;> rfl, put_known hv, h.f rfl⟩
      · rename_i l hv; exact ⟨false, s, by unfold gvl; simp only [hg, ht, hv], Eqv.refl _, h⟩
      · exact h.elim
theorem goP_py [Known P] {ops : Array Oper} {o : Oper} {s : St} {K : St → Prop} {g : Bool} (hg : gvl ops.toList s o = some g) (h : goP P o K g s) : ∃ v, PY P ops o s v ∧ K (s.put o.dst v) := by
  cases g with
  | true =>
    obtain ⟨v, h1, h2⟩ := pst_out h
    refine ⟨v, fun s' e K' hk => ?_, h1⟩
    unfold aOp
    rw [looks_gvl e, hg]
    exact h2 s' _ (looks_ev e) hk
  | false =>
    refine ⟨.tup [], fun s' e K' hk => ?_, h⟩
    unfold aOp
    rw [looks_gvl e, hg]
    exact hk
theorem wtr_sound [Known P] {ops : Array Oper} {k k' : St → Prop} (hk : EqI k') (hkk : ∀ s, k s → k' s) : ∀ (T : Tr) (f : Nat) (listed : Array Bool) (s : St), wtr P ops.toList k T s →
    (okT md ops false T f listed = true → wAny P md ops k' f listed s) ∧
    (okT md ops true T (f + 1) listed = true → ∀ j ∈ alts T, ∀ o, ops[j]? = some o → aOp P ops.toList o s (wAny P md ops k' f (listed.setIfInBounds j true)))
  | .done, f, listed, s, h => by
    refine ⟨fun ho => ?_, fun _ j hj => by simp [alts] at hj⟩
    have hr : Region.ready md ops listed = [] := by unfold okT at ho; simpa using ho
    cases f with
    | zero => exact ⟨hr, hkk _ h⟩
    | succ f => exact ⟨fun _ => hkk _ h, fun i hi => by rw [hr] at hi; cases hi⟩
  | .stop, f, listed, s, h => ⟨fun ho => by simp [okT] at ho, fun _ j hj => by simp [alts] at hj⟩
  | .take i t, f, listed, s, h => by
    refine ⟨fun ho => ?_, fun _ j hj => by simp [alts] at hj⟩
    cases f with
    | zero => simp [okT] at ho
    | succ f =>
      simp only [okT, Bool.and_eq_true] at ho
      obtain ⟨⟨h1, h2⟩, h3⟩ := ho
      simp only [wtr] at h
      split at h
      · rename_i o hoi
        have hoi' : ops[i]? = some o := by simpa using hoi
        obtain ⟨g, s', hg, he, hgo⟩ := gOp_sound h
        have hg' : gvl ops.toList s' o = some g := by rw [looks_gvl (ops := ops) (fun t _ => he.tm t)]; exact hg
        obtain ⟨v, hy, hK⟩ := goP_py hg' hgo
        have := (wtr_sound hk hkk t f (listed.setIfInBounds i true) _ hK).1 h3
        exact wAny_eqv hk _ _ _ _ he.symm (wAny_first hk hoi' f listed s' (Region.free_spec hoi' h2) (by simpa using h1) hy this)
      · exact h.elim
  | .alt i t r, f, listed, s, h => by
    simp only [wtr] at h
    obtain ⟨h1, h2⟩ := h
    have one : ∀ f, okT md ops false t f (listed.setIfInBounds i true) = true → ∀ o, ops[i]? = some o → aOp P ops.toList o s (wAny P md ops k' f (listed.setIfInBounds i true)) := fun f ho o hoi => by
      have : ops.toList[i]? = some o := by simpa using hoi
      rw [this] at h1
      obtain ⟨g, s', hg, he, hgo⟩ := gOp_sound h1
      have hg' : gvl ops.toList s' o = some g := by rw [looks_gvl (ops := ops) (fun t _ => he.tm t)]; exact hg
      refine aOp_eqv (wAny_eqv hk _ _) he.symm ?_
      unfold aOp
      rw [hg']
      cases g with
      | true => exact stp_mono (fun _ _ hk' => (wtr_sound hk hkk t f _ _ hk').1 ho) hgo
      | false => exact (wtr_sound hk hkk t f _ _ hgo).1 ho
    refine ⟨fun ho => ?_, fun ho j hj o hoj => ?_⟩
    · cases f with
      | zero => simp [okT] at ho
      | succ f =>
        simp only [okT, Bool.and_eq_true] at ho
        obtain ⟨⟨⟨h3, h4⟩, h5⟩, h6⟩ := ho
        refine ⟨fun hr => by rw [hr] at h3; simp at h3, fun j hj o hoj => ?_⟩
        have := List.all_eq_true.1 h4 j hj
        simp only [List.contains_eq_mem, List.mem_cons, decide_eq_true_eq] at this
        rcases this with rfl | hm
        · exact one f h5 o hoj
        · exact (wtr_sound hk hkk r f listed s h2).2 h6 j hm o hoj
    · simp only [okT, Bool.and_eq_true] at ho
      rcases List.mem_cons.1 hj with rfl | hm
      · exact one f ho.1 o hoj
      · exact (wtr_sound hk hkk r f listed s h2).2 ho.2 j hm o hoj
theorem region_sound [Known P] {B : Base P} {ops : Array Oper} {Q : Exit → Act → World → Prop} {n : Nat} {k : St → Prop} {id : Nat} (hQ : ∀ s a w, a.tmps.size = n → Rel B s a w → k s → Q .normal a w) (hfit : ops.toList.all (fitOp n) = true)
    (hm : P.follows .mixedOrders = true) (T : Tr) (hT : okT .any ops false T ops.size (Array.replicate ops.size false) = true) {s : St} {a : Act} {w : World} (hs : a.tmps.size = n) (hr : Rel B s a { w with drawn := w.drawn + 1 }) (h : wtr P ops.toList k T s) :
    (Code.region id ops true).wp P Q a w := by
  refine wp_region_any hm ?_
  have hk : EqI (fun s => ∃ s', Eqv s s' ∧ k s') := fun s s' e ⟨s2, e2, h2⟩ => ⟨s2, e.symm.trans e2, h2⟩
  exact wAny_sound (fun s a w h1 h2 ⟨s', e, h3⟩ => hQ s' a w h1 (h2.eqv e) h3) hfit _ _ s a _ hs hr ((wtr_sound hk (fun s h => ⟨s, Eqv.refl _, h⟩) T _ _ s h).1 hT)
theorem Rel.drawn [Known P] {B : Base P} {s : St} {a : Act} {w : World} (h : Rel B s a w) (d : Nat) : Rel B s a { w with drawn := d } := by
  obtain ⟨mu, F, c⟩ := h
  have hx : Ext (cx B w mu F s.nx) (cx B { w with drawn := d } mu F s.nx) := ⟨fun _ h => h, fun _ _ => rfl, Nat.le_refl _, fun _ _ => rfl⟩
  exact ⟨mu, F, c.defers, c.nx, c.mub, c.os, c.tape, c.output, c.size, c.old, c.one, c.blk, fun t => (c.tm t).mono hx _ _ _ (fun _ _ => rfl), RepH.mono hx _ _ c.hp (fun _ _ => rfl)⟩
end Go.Av
end

section
/- Engine, part 18b: regions that draw their order and only read the objects. -/
set_option linter.unusedVariables false
set_option linter.unusedSimpArgs false
set_option autoImplicit false
namespace Go.Av
variable {P : Program}

/-- An operation that may read an object, and makes none. -/
def hst (P : Program) [Known P] (op : Op) (s : St) (K : AV → Prop) : Prop := match op with
  | .load t a => match tyT P t, s.ev a with
    | some (g, n), .cp o i off => match geth s.hp o with
      | some ob => i < ob.rows.length ∧ 0 < n ∧ off + n ≤ ob.e ∧ puL (((ob.rows.getD i ob.d).drop off).take n) = true ∧ K (packT g (((ob.rows.getD i ob.d).drop off).take n))
      | none => False
    | _, _ => pst P (.load t a) s K
  | .indexAddr t x i => match elT P t, s.ev x, s.ev i with
    | some (_, e, _), .os o, .int _ j => match geth s.hp o with
      | some ob => e = ob.e ∧ 0 ≤ j ∧ j < ob.rows.length ∧ K (.cp o j.toNat 0)
      | none => False
    | _, _, _ => pst P (.indexAddr t x i) s K
  | op => pst P op s K
theorem hst_out [Known P] {op : Op} {s : St} {K : AV → Prop} (h : hst P op s K) : ∃ v, K v ∧ ∀ (s' : St) (K' : St → AV → Prop), (∀ x ∈ op.operands, s'.ev x = s.ev x) → s'.hp = s.hp → K' s' v → stp P op s' K' := by
  have gen : ∀ op, pst P op s K → ∃ v, K v ∧ ∀ (s' : St) (K' : St → AV → Prop), (∀ x ∈ op.operands, s'.ev x = s.ev x) → s'.hp = s.hp → K' s' v → stp P op s' K' := fun op h => by
    obtain ⟨v, h1, h2⟩ := pst_out h
    exact ⟨v, h1, fun s' K' he _ hk => h2 s' K' he hk⟩
  cases op with
  | load t a =>
    simp only [hst] at h
    split at h
    · rename_i g n o i off ht ha
      split at h
      · rename_i ob hob
        obtain ⟨h1, h2, h3, h4, h5⟩ := h
        refine ⟨_, h5, fun s' K' he hh hk => ?_⟩
        simp only [stp, ht, he a (by simp [Op.operands]), ha, hh, hob, h4]
        exact ⟨h1, h2, h3, hk⟩
      · exact h.elim
    · exact gen _ h
  | indexAddr t x i =>
    simp only [hst] at h
    split at h
    · rename_i g e b o k j ht hx hi
      split at h
      · rename_i ob hob
        obtain ⟨h1, h2, h3, h4⟩ := h
        refine ⟨_, h4, fun s' K' he hh hk => ?_⟩
        simp only [stp, ht, he x (by simp [Op.operands]), he i (by simp [Op.operands]), hx, hi, hh, hob]
        exact ⟨h1, h2, h3, hk⟩
      · exact h.elim
    · exact gen _ h
  | _ => exact gen _ h

def aOpH (P : Program) [Known P] (ops : List Oper) (o : Oper) (s : St) (K : St → Prop) : Prop := match gvl ops s o with
  | none => False
  | some true => ∃ v, (∀ K' : St → AV → Prop, K' s v → stp P o.op s K') ∧ K (s.put o.dst v)
  | some false => K (s.put o.dst (.tup []))
theorem aOpH_congr [Known P] {ops : Array Oper} {o : Oper} {s s' : St} {K K' : St → Prop} (ht : ∀ t ∈ o.looksAt ops, gtm s'.tm t = gtm s.tm t) (hh : s'.hp = s.hp) (hn : s'.nx = s.nx)
    (hK : ∀ v, K (s.put o.dst v) → K' (s'.put o.dst v)) (h : aOpH P ops.toList o s K) : aOpH P ops.toList o s' K' := by
  obtain ⟨tm, hp, nx⟩ := s
  obtain ⟨tm', hp', nx'⟩ := s'
  simp only at hh hn
  subst hh hn
  unfold aOpH at h ⊢
  rw [looks_gvl ht]
  split at h
  · exact h.elim
  · obtain ⟨v, h1, h2⟩ := h
    refine ⟨v, fun K2 hk => ?_, hK _ h2⟩
    exact stp_congr (K := fun s1 v1 => s1 = ⟨tm, hp', nx'⟩ ∧ v1 = v) (looks_ev ht) (fun hp1 nx1 v1 hk1 => by
      obtain ⟨e1, e2⟩ := hk1
      obtain ⟨e3, e4⟩ : hp1 = hp' ∧ nx1 = nx' := by injection e1 with _ a b; exact ⟨a, b⟩
      subst e2 e3 e4; exact hk) (h1 _ ⟨rfl, rfl⟩)
  · exact hK _ h
theorem aOpH_mono [Known P] {ops : Array Oper} {o : Oper} {s : St} {K K' : St → Prop} (hK : ∀ s, K s → K' s) (h : aOpH P ops.toList o s K) : aOpH P ops.toList o s K' := aOpH_congr (fun _ _ => rfl) rfl rfl (fun _ hk => hK _ hk) h
theorem aOpH_eqv [Known P] {ops : Array Oper} {o : Oper} {s s' : St} {K : St → Prop} (hi : EqI K) (e : Eqv s s') (h : aOpH P ops.toList o s K) : aOpH P ops.toList o s' K :=
  aOpH_congr (fun t _ => e.tm t) e.hp e.nx (fun v hk => hi _ _ (Eqv.put e _ _) hk) h
def PYh (P : Program) [Known P] (ops : Array Oper) (o : Oper) (s : St) (v : AV) : Prop := ∀ s', (∀ t ∈ o.looksAt ops, gtm s'.tm t = gtm s.tm t) → s'.hp = s.hp → ∀ K : St → Prop, K (s'.put o.dst v) → aOpH P ops.toList o s' K
theorem put_hp (s : St) (d : Option Tmp) (v : AV) : (s.put d v).hp = s.hp ∧ (s.put d v).nx = s.nx := by cases d <;> exact ⟨rfl, rfl⟩
def wAnyH (P : Program) [Known P] (md : Region.Mode) (ops : Array Oper) (k : St → Prop) : Nat → Array Bool → St → Prop
  | 0, listed, s => Region.ready md ops listed = [] ∧ k s
  | f + 1, listed, s => (Region.ready md ops listed = [] → k s) ∧ ∀ i ∈ Region.ready md ops listed, ∀ o, ops[i]? = some o → aOpH P ops.toList o s (wAnyH P md ops k f (listed.setIfInBounds i true))
theorem wAnyH_eqv [Known P] {md : Region.Mode} {ops : Array Oper} {k : St → Prop} (hk : EqI k) : ∀ (f : Nat) (listed : Array Bool), EqI (wAnyH P md ops k f listed)
  | 0, listed => fun s s' e h => ⟨h.1, hk s s' e h.2⟩
  | f + 1, listed => fun s s' e h => ⟨fun hr => hk s s' e (h.1 hr), fun i hi o ho => aOpH_eqv (wAnyH_eqv hk f _) e (h.2 i hi o ho)⟩
theorem wAnyH_any [Known P] {md : Region.Mode} {ops : Array Oper} {k : St → Prop} : ∀ (f : Nat) (listed : Array Bool) (s : St), wAnyH P md ops k f listed s → wAny P md ops k f listed s
  | 0, listed, s, h => h
  | f + 1, listed, s, h => ⟨h.1, fun i hi o ho => by
    have := h.2 i hi o ho
    unfold aOpH at this
    unfold aOp
    cases hg : gvl ops.toList s o with
    | none => rw [hg] at this; exact this.elim
    | some g =>
      rw [hg] at this
      cases g with
      | true =>
        obtain ⟨v, h1, h2⟩ := this
        exact h1 (fun s v => wAny P md ops k f (listed.setIfInBounds i true) (s.put o.dst v)) (wAnyH_any f _ _ h2)
      | false => exact wAnyH_any f _ _ this⟩
theorem aOp_putH [Known P] {md : Region.Mode} {ops : Array Oper} {oi oj : Oper} {s : St} {v : AV} {K : St → Prop} (hap : oi.apart ops oj = true) (hy : PYh P ops oi s v) (hK : EqI K) (h : aOpH P ops.toList oj (s.put oi.dst v) K) :
    aOpH P ops.toList oj s (fun s1 => PYh P ops oi s1 v ∧ K (s1.put oi.dst v)) := by
  obtain ⟨h1, h2, h3⟩ := Oper.apart_spec hap
  refine aOpH_congr (s := s.put oi.dst v) (fun t ht => (looks_put h1 t ht).symm) (put_hp _ _ _).1.symm (put_hp _ _ _).2.symm (fun u hk => ⟨?_, ?_⟩) h
  · intro s2 e2 eh
    exact hy s2 (fun t ht => (e2 t ht).trans (looks_put h3 t ht)) (eh.trans (put_hp _ _ _).1)
  · exact hK _ _ (put_comm _ v u h2) hk
theorem wAny_firstH [Known P] {md : Region.Mode} {ops : Array Oper} {k : St → Prop} (hk : EqI k) {i : Nat} {oi : Oper} {v : AV} (hi : ops[i]? = some oi) :
    ∀ (fuel : Nat) (listed : Array Bool) (s : St),
      (∀ j oj, ops[j]? = some oj → j ≠ i → listed.getD j true = false → (∀ e ∈ oj.after, Region.binds md e = true → e.on ≠ i) → oi.apart ops oj = true) →
      i ∈ Region.ready md ops listed → PYh P ops oi s v →
      wAnyH P md ops k fuel (listed.setIfInBounds i true) (s.put oi.dst v) → wAnyH P md ops k (fuel + 1) listed s := by
  intro fuel
  induction fuel with
  | zero =>
    intro listed s _ hr hy H
    refine ⟨fun h => (by rw [h] at hr; cases hr), fun j hj o ho => ?_⟩
    by_cases hji : j = i
    · subst hji
      obtain rfl : oi = o := Option.some.inj (hi.symm.trans ho)
      exact hy s (fun _ _ => rfl) rfl _ H
    · have := ready_mono hj hji
      rw [H.1] at this
      cases this
  | succ fuel ih =>
    intro listed s hfree hr hy H
    refine ⟨fun h => (by rw [h] at hr; cases hr), fun j hj oj hoj => ?_⟩
    by_cases hji : j = i
    · subst hji
      obtain rfl : oi = oj := Option.some.inj (hi.symm.trans hoj)
      exact hy s (fun _ _ => rfl) rfl _ H
    · have h1 := H.2 j (ready_mono hj hji) oj hoj
      obtain ⟨hjun, oj', hoj', hall⟩ := mem_ready.1 hj
      obtain rfl : oj = oj' := Option.some.inj (hoj.symm.trans hoj')
      have hnot : ∀ e ∈ oj.after, Region.binds md e = true → e.on ≠ i := fun e he hb heq => by
        have h1 := hall e he hb
        have h0 := (mem_ready.1 hr).1
        rw [heq] at h1
        rcases Nat.lt_or_ge i listed.size with h' | h'
        · simp [h'] at h0 h1; rw [h0] at h1; cases h1
        · simp [Array.getElem?_eq_none h'] at h1
      have h2 := aOp_putH (md := md) (hfree j oj hoj hji hjun hnot) hy (wAnyH_eqv hk _ _) h1
      have hfree' : ∀ k ok, ops[k]? = some ok → k ≠ i → (listed.setIfInBounds j true).getD k true = false →
          (∀ e ∈ ok.after, Region.binds md e = true → e.on ≠ i) → oi.apart ops ok = true := fun k ok hk hki hun hno => by
        refine hfree k ok hk hki ?_ hno
        by_cases hjk : j = k
        · subst hjk; exact hjun
        · rw [getD_set_ne true hjk] at hun; exact hun
      refine aOpH_mono (fun s' h3 => ih (listed.setIfInBounds j true) s' hfree' (ready_mono hr (Ne.symm hji)) h3.1 ?_) h2
      rw [Array.setIfInBounds_comm _ _ hji]
      exact h3.2
def goH (P : Program) [Known P] (o : Oper) (K : St → Prop) (g : Bool) (s : St) : Prop := match g with
  | true => hst P o.op s (fun v => K (s.put o.dst v))
  | false => K (s.put o.dst (.tup []))
theorem goH_py [Known P] {ops : Array Oper} {o : Oper} {s : St} {K : St → Prop} {g : Bool} (hg : gvl ops.toList s o = some g) (h : goH P o K g s) : ∃ v, PYh P ops o s v ∧ K (s.put o.dst v) := by
  cases g with
  | true =>
    have h : hst P o.op s (fun v => K (s.put o.dst v)) := h
    obtain ⟨v, h1, h2⟩ := hst_out h
    refine ⟨v, fun s' e eh K' hk => ?_, h1⟩
    unfold aOpH
    rw [looks_gvl e, hg]
    exact ⟨v, fun K2 hk2 => h2 s' _ (looks_ev e) eh hk2, hk⟩
  | false =>
    refine ⟨.tup [], fun s' e eh K' hk => ?_, h⟩
    unfold aOpH
    rw [looks_gvl e, hg]
    exact hk
/-- All operations in this order, each apart from those that are left. -/
def okH (md : Region.Mode) (ops : Array Oper) : List Nat → Nat → Array Bool → Bool
  | [], _, listed => (Region.ready md ops listed).isEmpty
  | i :: t, f + 1, listed => (Region.ready md ops listed).contains i && Region.free md ops listed i && okH md ops t f (listed.setIfInBounds i true)
  | _, _, _ => false
def wth (P : Program) [Known P] (ops : List Oper) (k : St → Prop) : List Nat → St → Prop
  | [], s => k s
  | i :: t, s => match ops[i]? with
    | some o => gOp ops o s (goH P o (wth P ops k t))
    | none => False
theorem wth_sound [Known P] {md : Region.Mode} {ops : Array Oper} {k k' : St → Prop} (hk : EqI k') (hkk : ∀ s, k s → k' s) : ∀ (T : List Nat) (f : Nat) (listed : Array Bool) (s : St), wth P ops.toList k T s →
    okH md ops T f listed = true → wAnyH P md ops k' f listed s
  | [], f, listed, s, h, ho => by
    have hr : Region.ready md ops listed = [] := by unfold okH at ho; simpa using ho
    cases f with
    | zero => exact ⟨hr, hkk _ h⟩
    | succ f => exact ⟨fun _ => hkk _ h, fun i hi => by rw [hr] at hi; cases hi⟩
  | i :: t, f, listed, s, h, ho => by
    cases f with
    | zero => simp [okH] at ho
    | succ f =>
      simp only [okH, Bool.and_eq_true] at ho
      obtain ⟨⟨h1, h2⟩, h3⟩ := ho
      simp only [wth] at h
      split at h
      · rename_i o hoi
        have hoi' : ops[i]? = some o := by simpa using hoi
        obtain ⟨g, s', hg, he, hgo⟩ := gOp_sound h
        have hg' : gvl ops.toList s' o = some g := by rw [looks_gvl (ops := ops) (fun t _ => he.tm t)]; exact hg
        obtain ⟨v, hy, hK⟩ := goH_py hg' hgo
        have := wth_sound hk hkk t f (listed.setIfInBounds i true) _ hK h3
        exact wAnyH_eqv hk _ _ _ _ he.symm (wAny_firstH hk hoi' f listed s' (Region.free_spec hoi' h2) (by simpa using h1) hy this)
      · exact h.elim
theorem region_soundH [Known P] {B : Base P} {ops : Array Oper} {Q : Exit → Act → World → Prop} {n : Nat} {k : St → Prop} {id : Nat} (hQ : ∀ s a w, a.tmps.size = n → Rel B s a w → k s → Q .normal a w) (hfit : ops.toList.all (fitOp n) = true)
    (hm : P.follows .mixedOrders = true) (T : List Nat) (hT : okH .any ops T ops.size (Array.replicate ops.size false) = true) {s : St} {a : Act} {w : World} (hs : a.tmps.size = n) (hr : Rel B s a { w with drawn := w.drawn + 1 }) (h : wth P ops.toList k T s) :
    (Code.region id ops true).wp P Q a w := by
  refine wp_region_any hm ?_
  have hk : EqI (fun s => ∃ s', Eqv s s' ∧ k s') := fun s s' e ⟨s2, e2, h2⟩ => ⟨s2, e.symm.trans e2, h2⟩
  exact wAny_sound (fun s a w h1 h2 ⟨s', e, h3⟩ => hQ s' a w h1 (h2.eqv e) h3) hfit _ _ s a _ hs hr (wAnyH_any _ _ _ (wth_sound hk (fun s h => ⟨s, Eqv.refl _, h⟩) T _ _ s h hT))
end Go.Av
end

section
/- Engine, part 19c: drawn regions that only read and call functions that are lent pointers to objects. -/
set_option linter.unusedVariables false
set_option linter.unusedSimpArgs false
set_option autoImplicit false
namespace Go.Av
open Go
variable {P : Program} {md : Region.Mode}
/-- A call in a region that only reads: of what hangs on no object, or of what is lent. -/
inductive HCall (P : Program) [Known P] (hp : Hp) (f : FuncId) (args : List AV) (K : AV → Prop) : Prop where
  | plain (h : PCall P f args K)
  | lent (r : AV) (np : npL (args.map (pur 4 hp)) = true) (tp : r.top2 = true) (rn : r.np = true) (pu : r.pu = true) (na : r.na = true) (en : Enters P f) (h : CallA P f ((args.map (pur 4 hp)).map AV.nbV) r) (k : K r)
theorem HCall.out [Known P] {hp : Hp} {f : FuncId} {args : List AV} {K : AV → Prop} (h : HCall P hp f args K) : ∃ v, K v ∧ ∀ (s : St) (K' : St → AV → Prop), s.hp = hp → K' s v → CallW P f args s K' := by
  cases h with
  | plain h =>
    obtain ⟨v, h1, h2⟩ := h.out
    exact ⟨v, h1, fun s K' _ hk => h2 s K' hk⟩
  | lent r np tp rn pu na en h k =>
    refine ⟨r, k, fun s K' e hk => .lent (fun r' => r' = r) (e ▸ np) en (e ▸ h) fun r' hr => ?_⟩
    subst hr
    exact ⟨tp, rn, na, by simpa [inst_pu r' s.nx pu] using hk⟩
def hstL (P : Program) [Known P] (op : Op) (s : St) (K : AV → Prop) : Prop := match op with
  | .call c => match c.callee with
    | .value f => match s.ev f with
      | .fn g caps => HCall P s.hp g (c.args.toList.map s.ev ++ caps) K
      | _ => False
    | _ => pst P (.call c) s K
  | op => hst P op s K
theorem hstL_out [Known P] {op : Op} {s : St} {K : AV → Prop} (h : hstL P op s K) : ∃ v, K v ∧ ∀ (s' : St) (K' : St → AV → Prop), (∀ x ∈ op.operands, s'.ev x = s.ev x) → s'.hp = s.hp → K' s' v → stp P op s' K' := by
  have gen : hst P op s K → ∃ v, K v ∧ ∀ (s' : St) (K' : St → AV → Prop), (∀ x ∈ op.operands, s'.ev x = s.ev x) → s'.hp = s.hp → K' s' v → stp P op s' K' := fun h => hst_out h
  cases op with
  | call c =>
    simp only [hstL] at h
    split at h
    · rename_i f hc
      split at h
      · rename_i g caps hf
        obtain ⟨v, h1, h2⟩ := h.out
        refine ⟨v, h1, fun s' K' he hh hk => ?_⟩
        have hfe : s'.ev f = s.ev f := he f (by simp [Op.operands, Call.operands, hc])
        have hae : c.args.toList.map s'.ev = c.args.toList.map s.ev := List.map_congr_left fun x hx => he x (by simp [Op.operands, Call.operands, hc]; first | exact .inr (by simpa using hx) | simp_all)
        simp only [stp, hc, hfe, hf, hae]
        exact h2 s' K' hh hk
      · exact h.elim
    · exact gen h
  | _ => exact gen h
def goL (P : Program) [Known P] (o : Oper) (K : St → Prop) (g : Bool) (s : St) : Prop := match g with
  | true => hstL P o.op s (fun v => K (s.put o.dst v))
  | false => K (s.put o.dst (.tup []))
theorem goL_py [Known P] {ops : Array Oper} {o : Oper} {s : St} {K : St → Prop} {g : Bool} (hg : gvl ops.toList s o = some g) (h : goL P o K g s) : ∃ v, PYh P ops o s v ∧ K (s.put o.dst v) := by
  cases g with
  | true =>
    have h : hstL P o.op s (fun v => K (s.put o.dst v)) := h
    obtain ⟨v, h1, h2⟩ := hstL_out h
    refine ⟨v, fun s' e eh K' hk => ?_, h1⟩
    unfold aOpH
    rw [looks_gvl e, hg]
    exact ⟨v, fun K2 hk2 => h2 s' _ (looks_ev e) eh hk2, hk⟩
  | false =>
    refine ⟨.tup [], fun s' e eh K' hk => ?_, h⟩
    unfold aOpH
    rw [looks_gvl e, hg]
    exact hk
def wtl (P : Program) [Known P] (ops : List Oper) (k : St → Prop) : List Nat → St → Prop
  | [], s => k s
  | i :: t, s => match ops[i]? with
    | some o => gOp ops o s (goL P o (wtl P ops k t))
    | none => False
theorem wtl_sound [Known P] {md : Region.Mode} {ops : Array Oper} {k k' : St → Prop} (hk : EqI k') (hkk : ∀ s, k s → k' s) : ∀ (T : List Nat) (f : Nat) (listed : Array Bool) (s : St), wtl P ops.toList k T s →
    okH md ops T f listed = true → wAnyH P md ops k' f listed s
  | [], f, listed, s, h, ho => by
    have hr : Region.ready md ops listed = [] := by unfold okH at ho; simpa using ho
    cases f with
    | zero => exact ⟨hr, hkk _ h⟩
    | succ f => exact ⟨fun _ => hkk _ h, fun i hi => by rw [hr] at hi; cases hi⟩
  | i :: t, f, listed, s, h, ho => by
    cases f with
    | zero => simp [okH] at ho
    | succ f =>
      simp only [okH, Bool.and_eq_true] at ho
      obtain ⟨⟨h1, h2⟩, h3⟩ := ho
      simp only [wtl] at h
      split at h
      · rename_i o hoi
        have hoi' : ops[i]? = some o := by simpa using hoi
        obtain ⟨g, s', hg, he, hgo⟩ := gOp_sound h
        have hg' : gvl ops.toList s' o = some g := by rw [looks_gvl (ops := ops) (fun t _ => he.tm t)]; exact hg
        obtain ⟨v, hy, hK⟩ := goL_py hg' hgo
        have := wtl_sound hk hkk t f (listed.setIfInBounds i true) _ hK h3
        exact wAnyH_eqv hk _ _ _ _ he.symm (wAny_firstH hk hoi' f listed s' (Region.free_spec hoi' h2) (by simpa using h1) hy this)
      · exact h.elim
theorem region_soundL [Known P] {B : Base P} {ops : Array Oper} {Q : Exit → Act → World → Prop} {n : Nat} {k : St → Prop} {id : Nat} (hQ : ∀ s a w, a.tmps.size = n → Rel B s a w → k s → Q .normal a w) (hfit : ops.toList.all (fitOp n) = true)
    (hm : P.follows .mixedOrders = true) (T : List Nat) (hT : okH .any ops T ops.size (Array.replicate ops.size false) = true) {s : St} {a : Act} {w : World} (hs : a.tmps.size = n) (hr : Rel B s a { w with drawn := w.drawn + 1 }) (h : wtl P ops.toList k T s) :
    (Code.region id ops true).wp P Q a w := by
  refine wp_region_any hm ?_
  have hk : EqI (fun s => ∃ s', Eqv s s' ∧ k s') := fun s s' e ⟨s2, e2, h2⟩ => ⟨s2, e.symm.trans e2, h2⟩
  exact wAny_sound (fun s a w h1 h2 ⟨s', e, h3⟩ => hQ s' a w h1 (h2.eqv e) h3) hfit _ _ s a _ hs hr (wAnyH_any _ _ _ (wtl_sound hk (fun s h => ⟨s, Eqv.refl _, h⟩) T _ _ s h hT))
end Go.Av
end

section
/- Engine, part 19: code. -/
set_option linter.unusedVariables false
set_option linter.unusedSimpArgs false
set_option autoImplicit false
namespace Go.Av
variable {P : Program}

/-! ### Code -/
/-- The second state says no more than the first. -/
def Le (P : Program) [Known P] (n : Nat) (s S : St) : Prop := ∀ (B : Base P) a w, B.n = n → Rel B s a w → Rel B S a w
/-- A loop: what holds at the head of each round, named by x; m falls. -/
inductive LoopW (P : Program) [Known P] (n : Nat) (body : (Exit → St → Prop) → St → Prop) (Q : Exit → St → Prop) (s : St) : Prop where
  | mk (X : Type) (S : X → St) (m : X → Nat) (x : X) (h : Le P n s (S x))
      (step : ∀ x, body (fun e s' => match e with | .normal => ∃ x', m x' < m x ∧ Le P n s' (S x') | e => Q e s') (S x))
theorem Le.refl [Known P] {n : Nat} (s : St) : Le P n s s := fun _ _ _ _ h => h
def wpc (P : Program) [Known P] (n : Nat) : Code → (Exit → St → Prop) → St → Prop
  | .skip, Q, s => Q .normal s
  | .seq a b, Q, s => wpc P n a (fun e s => match e with | .normal => wpc P n b Q s | e => Q e s) s
  | .cond c t e, Q, s => match s.ev c with
    | .tt => wpc P n t Q s
    | .ff => wpc P n e Q s
    | .bool b => If b (wpc P n t Q s) (wpc P n e Q s)
    | _ => False
  | .block id c, Q, s => wpc P n c (fun e s => match e with | .exit i => (match Nat.beq i id with | true => Q .normal s | false => Q (.exit i) s) | e => Q e s) s
  | .loop c, Q, s => LoopW P n (wpc P n c) Q s
  | .exit id, Q, s => Q (.exit id) s
  | .ret, Q, s => Q .ret s
  | .region _ ops false, Q, s => wops P ops.toList ops.toList s (Q .normal)
  | .region _ ops true, Q, s0 => P.follows .mixedOrders = true ∧ ∃ s, Le P n s0 s ∧ ((∃ T, okT .any ops false T ops.size (Array.replicate ops.size false) = true ∧ wtr P ops.toList (Q .normal) T s) ∨
    (∃ T, okH .any ops T ops.size (Array.replicate ops.size false) = true ∧ wth P ops.toList (Q .normal) T s) ∨
    (∃ T s', okT .any ops false T ops.size (Array.replicate ops.size false) = true ∧ wtr P ops.toList (fun s1 => Le P n s1 s') T s ∧ Q .normal s') ∨
    ∃ T, okH .any ops T ops.size (Array.replicate ops.size false) = true ∧ wtl P ops.toList (Q .normal) T s)
  | _, _, _ => False
def fitC (n : Nat) : Code → Bool
  | .seq a b => fitC n a && fitC n b
  | .cond c a b => okO c && fitC n a && fitC n b
  | .block _ c => fitC n c
  | .loop c => fitC n c
  | .region _ ops _ => ops.toList.all (fitOp n)
  | _ => true
/-- What is asked in the end, said of real states. -/
def Post [Known P] (B : Base P) (n : Nat) (Q : Exit → St → Prop) (e : Exit) (a : Act) (w : World) : Prop := a.tmps.size = n ∧ ∃ s, Rel B s a w ∧ Q e s
theorem wpc_sound [Known P] {B : Base P} {n : Nat} : ∀ (c : Code) (Q : Exit → St → Prop) (s : St) (a : Act) (w : World), fitC n c = true → a.tmps.size = n → Rel B s a w → wpc P B.n c Q s → c.wp P (Post B n Q) a w
  | .skip, Q, s, a, w, hf, hs, hr, h => wp_skip ⟨hs, s, hr, h⟩
  | .seq x y, Q, s, a, w, hf, hs, hr, h => by
    simp only [fitC, Bool.and_eq_true] at hf
    refine wp_seq (wp_mono (wpc_sound x _ s a w hf.1 hs hr h) ?_)
    rintro e a' w' ⟨hs', s', hr', hq⟩
    cases e with
    | normal => exact wpc_sound y Q s' a' w' hf.2 hs' hr' hq
    | _ => exact ⟨hs', s', hr', hq⟩
  | .cond c x y, Q, s, a, w, hf, hs, hr, h => by
    simp only [fitC, Bool.and_eq_true] at hf
    obtain ⟨⟨hok, hf1⟩, hf2⟩ := hf
    simp only [wpc] at h
    have hr2 := hr
    obtain ⟨mu, F, cc⟩ := hr
    have hc := cc.ev c hok
    split at h <;> rename_i hv
    · rw [hv] at hc; exact wp_cond_true hc.1 (wpc_sound x Q s a w hf1 hs hr2 h)
    · rw [hv] at hc; exact wp_cond_false hc.1 (wpc_sound y Q s a w hf2 hs hr2 h)
    · rename_i b
      rw [hv] at hc
      cases b with
      | true => exact wp_cond_true hc.1 (wpc_sound x Q s a w hf1 hs hr2 (h.t rfl))
      | false => exact wp_cond_false hc.1 (wpc_sound y Q s a w hf2 hs hr2 (h.f rfl))
    · exact h.elim
  | .block id c, Q, s, a, w, hf, hs, hr, h => by
    refine wp_block (wp_mono (wpc_sound c _ s a w hf hs hr h) ?_)
    rintro e a' w' ⟨hs', s', hr', hq⟩
    cases e with
    | exit i =>
      simp only [Exit.inBlock]
      simp only at hq
      cases hb : Nat.beq i id with
      | true => rw [hb] at hq; rw [if_pos (Nat.eq_of_beq_eq_true hb)]; exact ⟨hs', s', hr', hq⟩
      | false => rw [hb] at hq; rw [if_neg (fun e => by rw [e, Nat.beq_refl] at hb; cases hb)]; exact ⟨hs', s', hr', hq⟩
    | _ => exact ⟨hs', s', hr', hq⟩
  | .loop c, Q, s, a, w, hf, hs, hr, h => by
    obtain ⟨X, S, m, x, h0, step⟩ := h
    have key : ∀ (k : Nat) (x : X) (a : Act) (w : World), m x = k → a.tmps.size = n → Rel B (S x) a w → ∀ (b : Frame) (kk : List Item) (cs : List Frame), ∃ e a' w', Post B n Q e a' w' ∧ Arrives P (lone (b.at a (.code c :: .inLoop c :: kk)) cs w) b kk cs e a' w' := by
      intro k
      induction k using Nat.strongRecOn with
      | _ k ih =>
        intro x a w hk hs hr b kk cs
        obtain ⟨e, a₁, w₁, ⟨hs1, s1, hr1, hq⟩, harr⟩ := wpc_sound c _ (S x) a w hf hs hr (step x) b (.inLoop c :: kk) cs
        cases e with
        | normal =>
          obtain ⟨x', hlt, hle⟩ := hq
          obtain ⟨e₂, a₂, w₂, hq₂, harr₂⟩ := ih (m x') (hk ▸ hlt) x' a₁ w₁ rfl hs1 (hle _ _ _ rfl hr1) b kk cs
          exact ⟨e₂, a₂, w₂, hq₂, .of_steps (Steps.trans harr (.one step_inLoop)) harr₂⟩
        | exit id => exact ⟨_, a₁, w₁, ⟨hs1, s1, hr1, hq⟩, .pass (x := .inLoop c) rfl (fun _ _ => .inl (by simp)) harr⟩
        | goto l => exact ⟨_, a₁, w₁, ⟨hs1, s1, hr1, hq⟩, .pass (x := .inLoop c) rfl (fun _ _ => .inl (by simp)) harr⟩
        | ret => exact ⟨_, a₁, w₁, ⟨hs1, s1, hr1, hq⟩, .pass (x := .inLoop c) rfl (fun _ _ => .inl (by simp)) harr⟩
        | panic ch => exact ⟨_, a₁, w₁, ⟨hs1, s1, hr1, hq⟩, .pass (x := .inLoop c) rfl (fun _ _ => .inl (by simp)) harr⟩
        | outgrown => exact ⟨_, a₁, w₁, ⟨hs1, s1, hr1, hq⟩, .pass (x := .inLoop c) rfl (fun _ _ => .inl (by simp)) harr⟩
    intro b kk cs
    obtain ⟨e, a', w', hq, harr⟩ := key _ x a w rfl hs (h0 _ _ _ rfl hr) b kk cs
    exact ⟨e, a', w', hq, .of_steps (.one step_loop) harr⟩
  | .exit id, Q, s, a, w, hf, hs, hr, h => wp_exit ⟨hs, s, hr, h⟩
  | .ret, Q, s, a, w, hf, hs, hr, h => wp_ret ⟨hs, s, hr, h⟩
  | .region id ops false, Q, s, a, w, hf, hs, hr, h => by
    refine wp_region ?_
    have := wops_sound (P := P) (B := B) (ops := ops) (Q := Post B n Q) (n := n) (k := Q .normal) (fun s a w h1 h2 h3 => ⟨h1, s, h2, h3⟩) hf ops.toList 0 s a w (fun j => by simp) hs hr h
    simpa using this
  | .region id ops true, Q, s, a, w, hf, hs, hr, h => by
    obtain ⟨hm, s, hle, h⟩ := h
    replace hr := hle B a w rfl hr
    rcases h with ⟨T, hT, h⟩ | ⟨T, hT, h⟩ | ⟨T, s', hT, h, hq⟩ | ⟨T, hT, h⟩
    · exact region_sound (k := Q .normal) (fun s a w h1 h2 h3 => ⟨h1, s, h2, h3⟩) hf hm T hT hs (hr.drawn _) h
    · exact region_soundH (k := Q .normal) (fun s a w h1 h2 h3 => ⟨h1, s, h2, h3⟩) hf hm T hT hs (hr.drawn _) h
    · exact region_sound (k := fun s1 => Le P B.n s1 s') (fun s1 a w h1 h2 h3 => ⟨h1, s', h3 B a w rfl h2, hq⟩) hf hm T hT hs (hr.drawn _) h
    · exact region_soundL (k := Q .normal) (fun s a w h1 h2 h3 => ⟨h1, s, h2, h3⟩) hf hm T hT hs (hr.drawn _) h
  | .rangeFunc _ _ _ _, Q, s, a, w, hf, hs, hr, h => h.elim
  | .scope _, Q, s, a, w, hf, hs, hr, h => h.elim
  | .label _, Q, s, a, w, hf, hs, hr, h => h.elim
  | .goto _, Q, s, a, w, hf, hs, hr, h => h.elim
  | .refuse _, Q, s, a, w, hf, hs, hr, h => h.elim
end Go.Av
end

section
/- Engine, part 13: results; a function's promise out of its code. -/
set_option linter.unusedVariables false
set_option linter.unusedSimpArgs false
set_option autoImplicit false
namespace Go.Av
variable {P : Program}

/-- The results, the slices of one's own in them taken out of the state. -/
def resW (P : Program) [Known P] : List ResultVar → List (Nat × AV) → Hp → (List AV → Hp → Prop) → Prop
  | [], _, h, K => K [] h
  | .tmp t :: l, tm, h, K => match gtm tm t with
    | .agg x => resW P l tm (absC h (x.map AV.nb)).2 (fun vs h' => K (.agg (absC h (x.map AV.nb)).1 :: vs) h')
    | x => resW P l tm (absC h [x.nb]).2 (fun vs h' => K ((absC h [x.nb]).1.headD .dead :: vs) h')
  | .cell t ty :: l, tm, h, K => match tyT P ty, gtm tm t with
    | some (g, n), .cp o 0 0 => match geth h o with
      | some ⟨e, [row], _, true⟩ => e = n ∧ 0 < n ∧ (g || Nat.beq n 1) = true ∧ resW P l tm (absC (remh h o) row).2 (fun vs h' => K (packT g (absC (remh h o) row).1 :: vs) h')
      | _ => False
    | _, _ => False
def resRun (P : Program) [Known P] (tmps : Array Value) : ResultVar → Sem Value
  | .tmp t => pure (tmps.getD t undef)
  | .cell a t => do loadVar t (← asAddr (tmps.getD a undef))

theorem packT_rep' {C : Cx} {g : Bool} {l : List AV} {us : List Value} {F : Foot} (h : RepL C l us F) (hn : 0 < l.length) (hg : g = false → l.length = 1) : Rep C (packT g l) (if g then .agg us.toArray else us.headD undef) F := by
  cases g with
  | true => exact ⟨us, rfl, h⟩
  | false =>
    cases l with
    | nil => simp at hn
    | cons x l =>
      have := hg rfl
      cases l with
      | nil =>
        obtain ⟨v, vs', F1, F2, rfl, h1, ⟨_, h2⟩, h3⟩ := h
        exact h1.foot (fun b => by have := h3 b; have := h2 b; omega)
      | cons y l => simp at this
theorem resW_sound [Known P] {C : Cx} {tm : List (Nat × AV)} {tmps : Array Value} (htm : ∀ t, Rep C (gtm tm t) (tmps.getD t undef) (fun _ => 0)) :
    ∀ (l : List ResultVar) (h : Hp) (F : Foot) (K : List AV → Hp → Prop), RepH C h F → resW P l tm h K →
      ∃ vs h' us Fr Fh, K vs h' ∧ (l.mapM (resRun P tmps)).run P C.w = .ok us C.w ∧ RepL C vs us Fr ∧ RepH C h' Fh ∧ ∀ b, Fr b + Fh b ≤ F b
  | [], h, F, K, hh, hk => ⟨[], h, [], fun _ => 0, F, hk, by simp, ⟨rfl, fun _ => rfl⟩, hh, fun b => by simp⟩
  | .tmp t :: l, h, F, K, hh, hk => by
    have ht := htm t
    simp only [resW] at hk
    split at hk
    · rename_i x hx
      rw [hx] at ht
      obtain ⟨cs, hv, hL⟩ := ht
      obtain ⟨F1, F2, k1, k2, k3⟩ := absC_sound (x.map AV.nb) h F cs (nbL_rep _ _ _ hL) hh
      obtain ⟨vs, h', us, Fr, Fh, m1, m2, m3, m4, m5⟩ := resW_sound htm l _ F2 _ k2 hk
      exact ⟨_, h', .agg cs.toArray :: us, fun b => F1 b + Fr b, Fh, m1, by simp [List.mapM_cons, resRun, hv, m2], ⟨_, _, F1, Fr, rfl, ⟨cs, rfl, k1⟩, m3, fun _ => rfl⟩, m4, fun b => by have := k3 b; have := m5 b; simp; omega⟩
    · rename_i hx
      have hL : RepL C [(gtm tm t).nb] [tmps.getD t undef] (fun _ => 0) := ⟨_, _, _, _, rfl, nb_rep ht, ⟨rfl, fun _ => rfl⟩, fun _ => rfl⟩
      obtain ⟨F1, F2, k1, k2, k3⟩ := absC_sound _ h F _ hL hh
      obtain ⟨vs, h', us, Fr, Fh, m1, m2, m3, m4, m5⟩ := resW_sound htm l _ F2 _ k2 hk
      have hlen := absC_length [(gtm tm t).nb] h
      have k1' : Rep C ((absC h [(gtm tm t).nb]).1.headD .dead) (tmps.getD t undef) F1 := by
        generalize (absC h [(gtm tm t).nb]).1 = q at *
        cases q with
        | nil => simp at hlen
        | cons y q =>
          cases q with
          | nil =>
            obtain ⟨v, vs', G1, G2, e, g1, ⟨_, g2⟩, g3⟩ := k1
            obtain ⟨rfl, rfl⟩ : tmps.getD t undef = v ∧ [] = vs' := by simpa using e
            exact g1.foot (fun b => by have := g3 b; have := g2 b; omega)
          | cons z q => simp at hlen
      exact ⟨_, h', tmps.getD t undef :: us, fun b => F1 b + Fr b, Fh, m1, by simp [List.mapM_cons, resRun, m2], ⟨_, _, F1, Fr, rfl, k1', m3, fun _ => rfl⟩, m4, fun b => by have := k3 b; have := m5 b; simp; omega⟩
  | .cell t ty :: l, h, F, K, hh, hk => by
    have ht := htm t
    simp only [resW] at hk
    split at hk
    · rename_i g n o hty hx
      split at hk
      · rename_i e row d hob
        obtain ⟨he, hn, hg1, hk⟩ := hk
        subst he
        rw [hx] at ht
        obtain ⟨_, ⟨b, hb, hv⟩, _⟩ := ht
        obtain ⟨G1, G2, m1, m2, m3⟩ := RepH.take h F o _ hh hob
        obtain ⟨b', cc, tt, FR, q1, q2, q3, q4, q5, q6, q7, q8, q9⟩ := m1.rows (by simp)
        obtain rfl : b = b' := Option.some.inj (hb.symm.trans q1)
        obtain ⟨H1, H2, r1, r2, _, r4⟩ := q8
        obtain ⟨vs1, k1, k2, k3, _⟩ := RepB.to_list _ _ _ r2
        obtain ⟨A1, A2, a1, a2, a3⟩ := absC_sound' row (remh h o) H1 G2 vs1 k1 m2
        obtain ⟨vs, h', us, Fr, Fh, p1, p2, p3, p4, p5⟩ := resW_sound htm l _ A2 _ a2 hk
        have hl : vs1.length = e := by rw [k2, r1]
        have hrun := loadVar_run (P := P) hty (w := C.w) (ad := ⟨b, 0, none⟩) (us := vs1) hl hn (fun i u hi => by
          rw [add_none, cell_heap q6]; exact k3 i u hi)
        refine ⟨_, h', (if g then .agg vs1.toArray else vs1.headD undef) :: us, fun x => A1 x + Fr x, Fh, p1, ?_, ⟨_, _, A1, Fr, rfl, ?_, p3, fun _ => rfl⟩, p4, fun x => ?_⟩
        · rw [List.mapM_cons]
          simp only [Nat.zero_mul, Nat.add_zero] at hv
          simp only [resRun, hv, asAddr, Sem.run_bind, Sem.run_pure, Result.andThen_ok, hrun, p2]
        · have hlen : (absC (remh h o) row).1.length = e := by rw [absC_length, r1]
          exact packT_rep' a1 (by omega) (fun hg => by rw [hg] at hg1; rw [hlen]; exact Nat.eq_of_beq_eq_true (by simpa using hg1))
        · have h1 := m3 x; have h2 := q9 x; have h3 := r4 x; have h4 := a3 x; have h5 := p5 x
          simp; omega
      · exact hk.elim
    · exact hk.elim

/-- No list of an argument is too long. -/
def limA : AV → Prop
  | .sl _ rows _ => rows.length ≤ lim
  | .str b => b.size ≤ lim
  | .int k n => k.wrap n = n
  | _ => True
def limL : List AV → Prop
  | [] => True
  | .agg l :: r => (∀ x ∈ l, limA x) ∧ limL r
  | x :: r => limA x ∧ limL r
theorem limA_of {C : Cx} : ∀ (x : AV) (v : Value) (F : Foot), Rep C x v F → limA x := by
  intro x v F h
  cases x <;> first | trivial | skip
  · exact h.2.1
  · exact h.2.1
  · obtain ⟨⟨_, _, _, _, h, _⟩, _⟩ := h; exact h
theorem limA_ofL {C : Cx} : ∀ (l : List AV) (vs : List Value) (F : Foot), RepL C l vs F → ∀ x ∈ l, limA x
  | [], vs, F, h, x, hx => by simp at hx
  | y :: l, vs, F, h, x, hx => by
    obtain ⟨v, us, F1, F2, e, h1, h2, h3⟩ := h
    rcases List.mem_cons.1 hx with rfl | hx
    · exact limA_of _ _ _ h1
    · exact limA_ofL l us F2 h2 x hx
theorem limL_of {C : Cx} : ∀ (l : List AV) (vs : List Value) (F : Foot), RepL C l vs F → limL l
  | [], vs, F, h => trivial
  | x :: l, vs, F, h => by
    obtain ⟨v, us, F1, F2, e, h1, h2, h3⟩ := h
    have hl := limL_of l us F2 h2
    cases x with
    | agg l' =>
      obtain ⟨cs, _, k⟩ := h1
      exact ⟨limA_ofL l' cs F1 k, hl⟩
    | _ => exact ⟨limA_of _ _ _ h1, hl⟩
def pkR : List AV → AV
  | [x] => x
  | l => .tup l
/-- The objects that are handed back. -/
def selH : Hp → Hp → Prop
  | _, [] => True
  | h, (o, ob) :: l => geth h o = some ob ∧ selH (remh h o) l
theorem selH_sound {C : Cx} : ∀ (l : Hp) (h : Hp) (F : Foot), RepH C h F → selH h l → ∃ F', RepH C l F' ∧ ∀ b, F' b ≤ F b
  | [], h, F, hh, hs => ⟨fun _ => 0, fun _ => rfl, fun b => Nat.zero_le _⟩
  | (o, ob) :: l, h, F, hh, hs => by
    obtain ⟨G1, G2, m1, m2, m3⟩ := RepH.take h F o ob hh hs.1
    obtain ⟨F', k1, k2⟩ := selH_sound l _ G2 m2 hs.2
    exact ⟨fun b => G1 b + F' b, ⟨G1, F', m1, k1, fun _ => rfl⟩, fun b => by have := m3 b; have := k2 b; simp; omega⟩
def argTm : Nat → List AV → List (Nat × AV)
  | _, [] => []
  | n, a :: l => (n, a) :: argTm (n + 1) l
theorem argTm_rep {C : Cx} : ∀ (l : List AV) (n : Nat) (vs : List Value) (tmps : Array Value), RepL C l vs (fun _ => 0) → (∀ i v, vs[i]? = some v → tmps.getD (n + i) undef = v) →
    ∀ t, Rep C (gtm (argTm n l) t) (tmps.getD t undef) (fun _ => 0)
  | [], n, vs, tmps, h, ht, t => fun _ => rfl
  | x :: l, n, vs, tmps, h, ht, t => by
    obtain ⟨v, us, F1, F2, rfl, h1, h2, h3⟩ := h
    obtain ⟨rfl, rfl⟩ := zero_split h3
    simp only [argTm, gtm]
    cases hb : Nat.beq n t with
    | true =>
      obtain rfl := Nat.eq_of_beq_eq_true hb
      have := ht 0 v rfl
      rw [Nat.add_zero] at this
      rw [this]; exact h1
    | false =>
      exact argTm_rep l (n + 1) us tmps h2 (fun i u hi => by have := ht (i + 1) u (by simpa using hi); rwa [show n + 1 + i = n + (i + 1) by omega]) t
/-- What a function's end must give. -/
def RetX (P : Program) [Known P] (rs : List ResultVar) (Q : AV → Hp → Prop) (e : Exit) (s : St) : Prop := match e with
  | .normal => resW P rs s.tm s.hp (fun vs h => ∃ r hout, Q r hout ∧ sub (pkR vs) r ∧ selH h hout)
  | .ret => resW P rs s.tm s.hp (fun vs h => ∃ r hout, Q r hout ∧ sub (pkR vs) r ∧ selH h hout)
  | _ => False
def RetW (P : Program) [Known P] (rs : List ResultVar) (r : AV) (hout : Hp) (e : Exit) (s : St) : Prop := match e with
  | .normal => resW P rs s.tm s.hp (fun vs h => sub (pkR vs) r ∧ selH h hout)
  | .ret => resW P rs s.tm s.hp (fun vs h => sub (pkR vs) r ∧ selH h hout)
  | _ => False
theorem RetW_eq [Known P] {rs : List ResultVar} {r : AV} {hout : Hp} : RetW P rs r hout = RetX P rs (fun r' h' => r' = r ∧ h' = hout) := by
  have e : (fun (vs : List AV) (h : Hp) => sub (pkR vs) r ∧ selH h hout) = fun vs h => ∃ r' h', (r' = r ∧ h' = hout) ∧ sub (pkR vs) r' ∧ selH h h' := by
    funext vs h
    exact propext ⟨fun q => ⟨r, hout, ⟨rfl, rfl⟩, q⟩, fun ⟨r', h', ⟨e1, e2⟩, q⟩ => by subst e1; subst e2; exact q⟩
  funext e' s
  cases e' <;> simp only [RetW, RetX, e]
theorem resRun_eq [Known P] {tmps : Array Value} {w : World} {l : List ResultVar} {us : List Value} (h : (l.mapM (resRun P tmps)).run P w = .ok us w) (f : ResultVar → Sem Value) (h1 : ∀ u, f (.tmp u) = pure (tmps.getD u undef)) (h2 : ∀ a t, f (.cell a t) = (do loadVar t (← asAddr (tmps.getD a undef)))) : (l.mapM f).run P w = .ok us w := by
  have : f = resRun P tmps := by
    funext x; cases x with
    | tmp u => exact h1 u
    | cell a t => exact h2 a t
  rw [this]; exact h
theorem results_run [Known P] {fn : Func} {tmps : Array Value} {w : World} {us : List Value} (h : (fn.results.toList.mapM (resRun P tmps)).run P w = .ok us w) : (results fn tmps).run P w = .ok (if h : us.length = 1 then us[0] else .tuple us.toArray) w := by
  unfold results
  rw [show fn.results = fn.results.toList.toArray by simp, List.mapM_toArray]
  simp only [Sem.run_bind, Sem.run_map]
  rw [resRun_eq h]
  · simp
  · intro u; rfl
  · intro a t; rfl
theorem pkR_rep {C : Cx} {vs : List AV} {us : List Value} {F : Foot} (h : RepL C vs us F) : Rep C (pkR vs) (if h : us.length = 1 then us[0] else .tuple us.toArray) F := by
  have hl := RepL.length _ _ _ h
  match vs, h with
  | [], h => obtain ⟨rfl, hz⟩ := h; exact ⟨[], rfl, rfl, hz⟩
  | [x], h =>
    obtain ⟨v, us', F1, F2, rfl, h1, ⟨rfl, h2⟩, h3⟩ := h
    exact h1.foot (fun b => by have := h3 b; have := h2 b; omega)
  | x :: y :: l, h =>
    rw [dif_neg (by rw [hl]; simp)]
    exact ⟨us, rfl, h⟩
theorem callX_of [Known P] {f : FuncId} {fn : Func} {n : Nat} {args : List AV} {hin : Hp} {Q : AV → Hp → Prop} (hf : P.funcs[f]? = some fn) (hb : fn.body.isSome = true) (hfit : fitC fn.ntmps (fn.body.getD .skip) = true) (ha : Nat.ble args.length fn.ntmps = true)
    (h : limL args → wpc P n (fn.body.getD .skip) (RetX P fn.results.toList Q) ⟨argTm 0 args, hin, n⟩) : CallX P f n args hin Q := by
  intro B vs hn h1 h2 hargs hhin
  subst hn
  obtain ⟨c, hc⟩ := Option.isSome_iff_exists.1 hb
  rw [hc, Option.getD_some] at h hfit
  replace h := h (limL_of _ _ _ hargs)
  have hlen : vs.length = args.length := RepL.length _ _ _ hargs
  have ha' := Nat.le_of_ble_eq_true ha
  refine calls_of_wp hf hc (wp_mono (wpc_sound (B := { B with ds := [] }) (n := fn.ntmps) c _ ⟨argTm 0 args, hin, B.n⟩ _ B.w hfit ?_ ?_ h) ?_)
  · simp; omega
  · refine ⟨B.mu, B.F, rfl, Nat.le_refl _, fun _ _ => rfl, rfl, rfl, rfl, Nat.le_refl _, fun _ _ _ => rfl, h1, fun b hb => ⟨h2 b hb, .inr hb⟩, argTm_rep _ 0 vs _ hargs (fun i v hi => ?_), hhin⟩
    have hi' := (List.getElem?_eq_some_iff.1 hi).1
    simp only [Nat.zero_add, Array.getD, Array.size_append, List.size_toArray]
    rw [dif_pos (by omega)]
    have : (vs.toArray ++ Array.replicate (fn.ntmps - vs.toArray.size) undef)[i]? = some v := by
      rw [Array.getElem?_append_left (by simpa using hi')]; simpa using hi
    rw [Array.getElem?_eq_getElem (by simp; omega)] at this
    exact Option.some.inj this
  · rintro e a w ⟨hs, s, ⟨mu, F, core⟩, hq⟩
    have main : resW P fn.results.toList s.tm s.hp (fun vs h => ∃ r hout, Q r hout ∧ sub (pkR vs) r ∧ selH h hout) → a.defers = [] ∧ ∃ v, (results fn a.tmps).run P w = .ok v w ∧ ∃ (r : AV) (hout : Hp), Q r hout ∧ ∃ (v' : Value) (mu' : Nat → Hdr) (n' : Nat) (F' Fr Fh : Foot), Ending.returned v = .returned v' ∧ B.n ≤ n' ∧ (∀ o, o < B.n → mu' o = B.mu o) ∧ Fin B w F' ∧
        (∀ b, F' b = Fr b + Fh b) ∧ Rep (cx B w mu' F' n') r v' Fr ∧ RepH (cx B w mu' F' n') hout Fh := fun hq => by
      obtain ⟨vs', h', us, Fr, Fh, ⟨r, hout, hQ, hsub, hsel⟩, hrun, hL, hH, hle⟩ := resW_sound core.tm _ _ _ _ core.hp hq
      obtain ⟨Fo, k1, k2⟩ := selH_sound _ _ _ hH hsel
      refine ⟨core.defers, _, results_run hrun, r, hout, hQ, _, mu, s.nx, fun b => Fr b + Fo b, Fr, Fo, rfl, core.nx, core.mub, ?_, fun _ => rfl, ?_, ?_⟩
      · refine ⟨core.os, core.tape, core.output, core.size, core.old, fun b => ?_, fun b hb => core.blk b ?_⟩
        · have := hle b; have := k2 b; have := core.one b; show Fr b + Fo b ≤ 1; omega
        · have := hle b; have := k2 b; have hb' : Fr b + Fo b ≠ 0 := hb; omega
      all_goals
        have hx : Ext (cx B w mu F s.nx) (cx B w mu (fun b => Fr b + Fo b) s.nx) := ⟨fun b hb => ⟨hb.1, by have := hle b; have := k2 b; have := hb.2.1; show Fr b + Fo b = 0; omega, hb.2.2⟩, fun _ _ => rfl, Nat.le_refl _, fun _ _ => rfl⟩
      · exact (sub_rep _ _ _ _ (pkR_rep hL) hsub).mono hx _ _ _ (fun _ _ => rfl)
      · exact RepH.mono hx _ _ k1 (fun _ _ => rfl)
    cases e with
    | normal => exact main hq
    | ret => exact main hq
    | _ => exact hq.elim
theorem callM_of [Known P] {f : FuncId} {fn : Func} {n : Nat} {args : List AV} {hin : Hp} {r : AV} {hout : Hp} (hf : P.funcs[f]? = some fn) (hb : fn.body.isSome = true) (hfit : fitC fn.ntmps (fn.body.getD .skip) = true) (ha : Nat.ble args.length fn.ntmps = true)
    (h : limL args → wpc P n (fn.body.getD .skip) (RetW P fn.results.toList r hout) ⟨argTm 0 args, hin, n⟩) : CallM P f n args hin r hout :=
  callX_of hf hb hfit ha fun hl => RetW_eq (P := P) ▸ h hl
/-! ### Results that may name objects of the state -/
def resR (P : Program) [Known P] : List ResultVar → List (Nat × AV) → Hp → (List AV → Prop) → Prop
  | [], _, _, K => K []
  | .tmp t :: l, tm, h, K => resR P l tm h (fun vs => K (gtm tm t :: vs))
  | .cell t ty :: l, tm, h, K => match tyT P ty, gtm tm t with
    | some (g, n), .cp o 0 0 => match geth h o with
      | some ⟨e, [row], _, true⟩ => e = n ∧ 0 < n ∧ (g || Nat.beq n 1) = true ∧ puL row = true ∧ resR P l tm h (fun vs => K (packT g row :: vs))
      | _ => False
    | _, _ => False
theorem resR_sound [Known P] {C : Cx} {tm : List (Nat × AV)} {tmps : Array Value} (htm : ∀ t, Rep C (gtm tm t) (tmps.getD t undef) (fun _ => 0)) {h : Hp} {F : Foot} (hh : RepH C h F) :
    ∀ (l : List ResultVar) (K : List AV → Prop), resR P l tm h K → ∃ vs us, K vs ∧ (l.mapM (resRun P tmps)).run P C.w = .ok us C.w ∧ RepL C vs us (fun _ => 0)
  | [], K, hk => ⟨[], [], hk, by simp, ⟨rfl, fun _ => rfl⟩⟩
  | .tmp t :: l, K, hk => by
    obtain ⟨vs, us, m1, m2, m3⟩ := resR_sound htm hh l _ hk
    exact ⟨_, tmps.getD t undef :: us, m1, by simp [List.mapM_cons, resRun, m2], ⟨_, _, _, _, rfl, htm t, m3, fun _ => rfl⟩⟩
  | .cell t ty :: l, K, hk => by
    have ht := htm t
    simp only [resR] at hk
    split at hk
    · rename_i g n o hty hx
      split at hk
      · rename_i e row d hob
        obtain ⟨he, hn, hg1, hpu, hk⟩ := hk
        subst he
        rw [hx] at ht
        obtain ⟨_, ⟨b, hb, hv⟩, _⟩ := ht
        obtain ⟨G1, G2, m1, m2, m3⟩ := RepH.take h F o _ hh hob
        obtain ⟨b', cc, tt, FR, q1, q2, q3, q4, q5, q6, q7, q8, q9⟩ := m1.rows (by simp)
        obtain rfl : b = b' := Option.some.inj (hb.symm.trans q1)
        obtain ⟨H1, H2, r1, r2, _, r4⟩ := q8
        obtain ⟨vs1, k1, k2, k3, _⟩ := RepB.to_list _ _ _ r2
        have hz := puL_zero row vs1 H1 k1 hpu
        obtain rfl : H1 = fun _ => 0 := funext hz
        obtain ⟨vs, us, p1, p2, p3⟩ := resR_sound htm hh l _ hk
        have hl : vs1.length = e := by rw [k2, r1]
        have hrun := loadVar_run (P := P) hty (w := C.w) (ad := ⟨b, 0, none⟩) (us := vs1) hl hn (fun i u hi => by
          rw [add_none, cell_heap q6]; exact k3 i u hi)
        refine ⟨_, (if g then .agg vs1.toArray else vs1.headD undef) :: us, p1, ?_, ⟨_, _, _, _, rfl, ?_, p3, fun _ => rfl⟩⟩
        · rw [List.mapM_cons]
          simp only [Nat.zero_mul, Nat.add_zero] at hv
          simp only [resRun, hv, asAddr, Sem.run_bind, Sem.run_pure, Result.andThen_ok, hrun, p2]
        · exact packT_rep' k1 (by omega) (fun hg => by rw [hg] at hg1; rw [r1]; exact Nat.eq_of_beq_eq_true (by simpa using hg1))
      · exact hk.elim
    · exact hk.elim
def RetR (P : Program) [Known P] (rs : List ResultVar) (Q : AV → Hp → Prop) (e : Exit) (s : St) : Prop := match e with
  | .normal => resR P rs s.tm s.hp (fun vs => ∃ r hout, Q r hout ∧ sub (pkR vs) r ∧ selH s.hp hout)
  | .ret => resR P rs s.tm s.hp (fun vs => ∃ r hout, Q r hout ∧ sub (pkR vs) r ∧ selH s.hp hout)
  | _ => False
theorem callR_of [Known P] {f : FuncId} {fn : Func} {n : Nat} {args : List AV} {hin : Hp} {Q : AV → Hp → Prop} (hf : P.funcs[f]? = some fn) (hb : fn.body.isSome = true) (hfit : fitC fn.ntmps (fn.body.getD .skip) = true) (ha : Nat.ble args.length fn.ntmps = true)
    (h : limL args → wpc P n (fn.body.getD .skip) (RetR P fn.results.toList Q) ⟨argTm 0 args, hin, n⟩) : CallX P f n args hin Q := by
  intro B vs hn h1 h2 hargs hhin
  subst hn
  obtain ⟨c, hc⟩ := Option.isSome_iff_exists.1 hb
  rw [hc, Option.getD_some] at h hfit
  replace h := h (limL_of _ _ _ hargs)
  have hlen : vs.length = args.length := RepL.length _ _ _ hargs
  have ha' := Nat.le_of_ble_eq_true ha
  refine calls_of_wp hf hc (wp_mono (wpc_sound (B := { B with ds := [] }) (n := fn.ntmps) c _ ⟨argTm 0 args, hin, B.n⟩ _ B.w hfit ?_ ?_ h) ?_)
  · simp; omega
  · refine ⟨B.mu, B.F, rfl, Nat.le_refl _, fun _ _ => rfl, rfl, rfl, rfl, Nat.le_refl _, fun _ _ _ => rfl, h1, fun b hb => ⟨h2 b hb, .inr hb⟩, argTm_rep _ 0 vs _ hargs (fun i v hi => ?_), hhin⟩
    have hi' := (List.getElem?_eq_some_iff.1 hi).1
    simp only [Nat.zero_add, Array.getD, Array.size_append, List.size_toArray]
    rw [dif_pos (by omega)]
    have : (vs.toArray ++ Array.replicate (fn.ntmps - vs.toArray.size) undef)[i]? = some v := by
      rw [Array.getElem?_append_left (by simpa using hi')]; simpa using hi
    rw [Array.getElem?_eq_getElem (by simp; omega)] at this
    exact Option.some.inj this
  · rintro e a w ⟨hs, s, ⟨mu, F, core⟩, hq⟩
    have main : resR P fn.results.toList s.tm s.hp (fun vs => ∃ r hout, Q r hout ∧ sub (pkR vs) r ∧ selH s.hp hout) → a.defers = [] ∧ ∃ v, (results fn a.tmps).run P w = .ok v w ∧ ∃ (r : AV) (hout : Hp), Q r hout ∧ ∃ (v' : Value) (mu' : Nat → Hdr) (n' : Nat) (F' Fr Fh : Foot), Ending.returned v = .returned v' ∧ B.n ≤ n' ∧ (∀ o, o < B.n → mu' o = B.mu o) ∧ Fin B w F' ∧
        (∀ b, F' b = Fr b + Fh b) ∧ Rep (cx B w mu' F' n') r v' Fr ∧ RepH (cx B w mu' F' n') hout Fh := fun hq => by
      obtain ⟨vs', us, ⟨r, hout, hQ, hsub, hsel⟩, hrun, hL⟩ := resR_sound core.tm core.hp _ _ hq
      obtain ⟨Fo, k1, k2⟩ := selH_sound _ _ _ core.hp hsel
      refine ⟨core.defers, _, results_run hrun, r, hout, hQ, _, mu, s.nx, Fo, fun _ => 0, Fo, rfl, core.nx, core.mub, ?_, fun b => by simp, ?_, ?_⟩
      · refine ⟨core.os, core.tape, core.output, core.size, core.old, fun b => ?_, fun b hb => core.blk b ?_⟩
        · have := k2 b; have := core.one b; omega
        · have := k2 b; have hb' : Fo b ≠ 0 := hb; omega
      all_goals
        have hx : Ext (cx B w mu F s.nx) (cx B w mu Fo s.nx) := ⟨fun b hb => ⟨hb.1, by have := k2 b; have := hb.2.1; show Fo b = 0; omega, hb.2.2⟩, fun _ _ => rfl, Nat.le_refl _, fun _ _ => rfl⟩
      · exact (sub_rep _ _ _ _ (pkR_rep hL) hsub).mono hx _ _ _ (fun _ _ => rfl)
      · exact RepH.mono hx _ _ k1 (fun _ _ => rfl)
    cases e with
    | normal => exact main hq
    | ret => exact main hq
    | _ => exact hq.elim
end Go.Av
end

section
/- Engine, part 14: a state that says less: for the heads of loops. -/
set_option linter.unusedVariables false
set_option linter.unusedSimpArgs false
set_option autoImplicit false
namespace Go.Av

def leT (ρ : Ren) (N : Nat) (tm : List (Nat × AV)) : List (Nat × AV) → Prop
  | [] => True
  | (t, v) :: l => nbl ρ N v ∧ sub (gtm tm t) (ren ρ v) ∧ leT ρ N tm l
/-- No old name below is another's. -/
def leN (n : Nat) : Ren → Prop
  | [] => True
  | (o, _) :: r => n ≤ o ∧ leN n r
theorem lkR_leN {n : Nat} : ∀ (ρ : Ren) (o : Nat), leN n ρ → o < n → lkR ρ o = none
  | [], o, h, ho => rfl
  | (m, x) :: r, o, h, ho => by
    rw [lkR]
    cases hb : Nat.beq m o with
    | true => have := Nat.eq_of_beq_eq_true hb; have := h.1; omega
    | false => exact lkR_leN r o h.2 ho
theorem leT_rep {ρ : Ren} {C C' : Cx} (h : RC ρ C C') {tm : List (Nat × AV)} {tmps : Nat → Value} (ht : ∀ t, Rep C (gtm tm t) (tmps t) (fun _ => 0)) : ∀ (l : List (Nat × AV)), leT ρ C'.nx tm l → ∀ t, Rep C' (gtm l t) (tmps t) (fun _ => 0)
  | [], hl, t => fun _ => rfl
  | (u, v) :: l, hl, t => by
    rw [gtm]
    cases hb : Nat.beq u t with
    | true =>
      obtain rfl := Nat.eq_of_beq_eq_true hb
      exact ren_rep h v _ _ hl.1 (sub_rep _ _ _ _ (ht u) hl.2.1)
    | false => exact leT_rep h ht l hl.2.2 t
/-- The first state says all that the second says, under other names. -/
theorem Le.of {P : Program} [Known P] {n : Nat} {s S : St} (ρ : Ren) (h0 : n ≤ S.nx) (hn : leN n ρ) (ht : leT ρ S.nx s.tm S.tm) (hh : leH ρ S.nx s.hp S.hp) : Le P n s S := by
  rintro B a w rfl ⟨mu, F, c⟩
  let mu' : Nat → Hdr := fun o => match lkR ρ o with
    | none => mu o
    | some none => default
    | some (some x) => mu x
  have rc : ∀ F', (∀ b, F' b ≤ F b) → RC ρ (cx B w mu F s.nx) (cx B w mu' F' S.nx) := fun F' hF => ⟨⟨fun b hb => ⟨hb.1, by have := hF b; have := hb.2.1; omega, hb.2.2⟩, fun _ _ => rfl, Nat.le_refl _, fun _ _ => rfl⟩, rfl, fun o ho => rfl⟩
  obtain ⟨F', k1, k2⟩ := leH_rep (rc F (fun _ => Nat.le_refl _)) S.hp s.hp F hh c.hp
  have hx : Ext (cx B w mu' F S.nx) (cx B w mu' F' S.nx) := ⟨fun b hb => ⟨hb.1, by have := k2 b; have := hb.2.1; omega, hb.2.2⟩, fun _ _ => rfl, Nat.le_refl _, fun _ _ => rfl⟩
  refine ⟨mu', F', c.defers, h0, fun o ho => ?_, c.os, c.tape, c.output, c.size, c.old, fun b => Nat.le_trans (k2 b) (c.one b), fun b hb => c.blk b (by have := k2 b; omega), leT_rep (rc F' k2) c.tm S.tm ht, RepH.mono hx _ _ k1 (fun _ _ => rfl)⟩
  show mu' o = B.mu o
  simp only [mu']
  rw [lkR_leN ρ o hn ho]
  exact c.mub o ho
/-! ### The same, closed up, for 'simp': a rest is not looked into before its turn. They are structures, so that the kernel doesn't look into them either. -/
def Seq0 (P : Program) [Known P] (n : Nat) (b : Code) (Q : Exit → St → Prop) : Exit → St → Prop := fun e s => match e with
  | .normal => wpc P n b Q s
  | e => Q e s
structure Seq (P : Program) [Known P] (n : Nat) (b : Code) (Q : Exit → St → Prop) (e : Exit) (s : St) : Prop where
  h : Seq0 P n b Q e s
theorem Seq_eq {P : Program} [Known P] {n : Nat} {b : Code} {Q : Exit → St → Prop} : Seq P n b Q = Seq0 P n b Q := funext fun _ => funext fun _ => propext ⟨Seq.h, Seq.mk⟩
theorem SeqE {P : Program} [Known P] {n : Nat} : (∀ b Q s, Seq P n b Q .normal s = wpc P n b Q s) ∧ (∀ b Q s, Seq P n b Q .ret s = Q .ret s) ∧ (∀ b Q s i, Seq P n b Q (.exit i) s = Q (.exit i) s) := by
  refine ⟨?_, ?_, ?_⟩ <;> intros <;> rw [Seq_eq] <;> rfl
def Blk0 (id : Nat) (Q : Exit → St → Prop) : Exit → St → Prop := fun e s => match e with
  | .exit i => (match Nat.beq i id with | true => Q .normal s | false => Q (.exit i) s)
  | e => Q e s
structure Blk (id : Nat) (Q : Exit → St → Prop) (e : Exit) (s : St) : Prop where
  h : Blk0 id Q e s
theorem Blk_eq {id : Nat} {Q : Exit → St → Prop} : Blk id Q = Blk0 id Q := funext fun _ => funext fun _ => propext ⟨Blk.h, Blk.mk⟩
theorem BlkE : (∀ id Q s, Blk id Q .normal s = Q .normal s) ∧ (∀ id Q s, Blk id Q .ret s = Q .ret s) ∧ (∀ id Q s i, Blk id Q (.exit i) s = match Nat.beq i id with | true => Q .normal s | false => Q (.exit i) s) := by
  refine ⟨?_, ?_, ?_⟩ <;> intros <;> rw [Blk_eq] <;> rfl
structure Nxt (P : Program) [Known P] (r ops : List Oper) (d : Option Tmp) (k : St → Prop) (s : St) (v : AV) : Prop where
  h : wops P r ops (s.put d v) k
theorem Nxt_eq {P : Program} [Known P] {r ops : List Oper} {d : Option Tmp} {k : St → Prop} : Nxt P r ops d k = fun s v => wops P r ops (s.put d v) k := funext fun _ => funext fun _ => propext ⟨Nxt.h, Nxt.mk⟩
/-- Code, step by step; a loop stays as it is. -/
theorem wpcE {P : Program} [Known P] {n : Nat} : (∀ Q s, wpc P n .skip Q s = Q .normal s) ∧
    (∀ a b Q s, wpc P n (.seq a b) Q s = wpc P n a (Seq P n b Q) s) ∧
    (∀ c t e Q s, wpc P n (.cond c t e) Q s = match s.ev c with
      | .tt => wpc P n t Q s
      | .ff => wpc P n e Q s
      | .bool b => If b (wpc P n t Q s) (wpc P n e Q s)
      | _ => False) ∧
    (∀ id c Q s, wpc P n (.block id c) Q s = wpc P n c (Blk id Q) s) ∧
    (∀ id Q s, wpc P n (.exit id) Q s = Q (.exit id) s) ∧ (∀ Q s, wpc P n .ret Q s = Q .ret s) ∧
    (∀ id ops Q s, wpc P n (.region id ops false) Q s = wops P ops.toList ops.toList s (Q .normal)) :=
  ⟨fun _ _ => rfl, fun _ _ _ _ => by rw [Seq_eq]; rfl, fun _ _ _ _ _ => rfl, fun _ _ _ _ => by rw [Blk_eq]; rfl, fun _ _ _ => rfl, fun _ _ => rfl, fun _ _ _ _ => rfl⟩
theorem wopsE {P : Program} [Known P] : (∀ ops s k, wops P [] ops s k = k s) ∧
    (∀ dst op ty pos after r ops s k, wops P (⟨dst, op, ty, pos, after, none⟩ :: r) ops s k = stp P op s (Nxt P r ops dst k)) ∧
    (∀ dst op ty pos after j x r ops s k, wops P (⟨dst, op, ty, pos, after, some (j, x)⟩ :: r) ops s k = match dstOf ops j with
      | none => False
      | some t => match gtm s.tm t with
        | .tt => stg P x ⟨dst, op, ty, pos, after, some (j, x)⟩ s (Nxt P r ops dst k)
        | .ff => stg P (!x) ⟨dst, op, ty, pos, after, some (j, x)⟩ s (Nxt P r ops dst k)
        | .bool b => If b (stg P x ⟨dst, op, ty, pos, after, some (j, x)⟩ (s.put (some t) .tt) (Nxt P r ops dst k)) (stg P (!x) ⟨dst, op, ty, pos, after, some (j, x)⟩ (s.put (some t) .ff) (Nxt P r ops dst k))
        | .tup _ => stg P false ⟨dst, op, ty, pos, after, some (j, x)⟩ s (Nxt P r ops dst k)
        | _ => False) ∧
    (∀ o s K, stg P true o s K = stp P o.op s K) ∧ (∀ o s K, stg P false o s K = K s (.tup [])) ∧
    (∀ r ops d k s v, Nxt P r ops d k s v = wops P r ops (s.put d v) k) :=
  ⟨fun _ _ _ => rfl, fun _ _ _ _ _ _ _ _ _ => by rw [Nxt_eq]; rfl, fun _ _ _ _ _ _ _ _ _ _ _ => by rw [Nxt_eq]; rfl, fun _ _ _ => rfl, fun _ _ _ => rfl, fun _ _ _ _ _ _ => by rw [Nxt_eq]⟩
/-- One round of a loop: it goes on, or it leaves. -/
def Rnd0 {X : Type} (P : Program) [Known P] (n : Nat) (S : X → St) (m : X → Nat) (Q : Exit → St → Prop) (x : X) : Exit → St → Prop := fun e s' => match e with
  | .normal => ∃ x', m x' < m x ∧ Le P n s' (S x')
  | e => Q e s'
structure Rnd {X : Type} (P : Program) [Known P] (n : Nat) (S : X → St) (m : X → Nat) (Q : Exit → St → Prop) (x : X) (e : Exit) (s : St) : Prop where
  h : Rnd0 P n S m Q x e s
theorem Rnd_eq {X : Type} {P : Program} [Known P] {n : Nat} {S : X → St} {m : X → Nat} {Q : Exit → St → Prop} {x : X} : Rnd P n S m Q x = Rnd0 P n S m Q x := funext fun _ => funext fun _ => propext ⟨Rnd.h, Rnd.mk⟩
theorem RndE {X : Type} {P : Program} [Known P] {n : Nat} {S : X → St} {m : X → Nat} : (∀ Q x s, Rnd P n S m Q x .normal s = ∃ x', m x' < m x ∧ Le P n s (S x')) ∧ (∀ Q x s, Rnd P n S m Q x .ret s = Q .ret s) ∧ (∀ Q x s i, Rnd P n S m Q x (.exit i) s = Q (.exit i) s) := by
  refine ⟨?_, ?_, ?_⟩ <;> intros <;> rw [Rnd_eq] <;> rfl
theorem wpc_loop {P : Program} [Known P] {n : Nat} {c : Code} {Q : Exit → St → Prop} {s : St} (X : Type) (S : X → St) (m : X → Nat) (x : X) (h : Le P n s (S x))
    (step : ∀ x, wpc P n c (Rnd P n S m Q x) (S x)) : wpc P n (.loop c) Q s := ⟨X, S, m, x, h, fun x => by have := step x; rw [Rnd_eq] at this; exact this⟩
theorem wpc_loop2 {P : Program} [Known P] {n : Nat} {c : Code} {Q : Exit → St → Prop} {s : St} (X : Type) (S : X → St) (m : X → Nat) (x : X)
    (step : ∀ x, wpc P n c (Rnd P n S m Q x) (S x)) (h : Le P n s (S x)) : wpc P n (.loop c) Q s := wpc_loop X S m x h step
theorem wpc_draw {P : Program} [Known P] {n id : Nat} {ops : Array Oper} {Q : Exit → St → Prop} {s : St} (T : Tr) (hm : P.follows .mixedOrders = true) (hT : okT .any ops false T ops.size (Array.replicate ops.size false) = true) (h : wtr P ops.toList (Q .normal) T s) :
    wpc P n (.region id ops true) Q s := ⟨hm, s, Le.refl s, .inl ⟨T, hT, h⟩⟩
theorem wpc_read {P : Program} [Known P] {n id : Nat} {ops : Array Oper} {Q : Exit → St → Prop} {s : St} (T : List Nat) (hm : P.follows .mixedOrders = true) (hT : okH .any ops T ops.size (Array.replicate ops.size false) = true) (h : wth P ops.toList (Q .normal) T s) :
    wpc P n (.region id ops true) Q s := ⟨hm, s, Le.refl s, .inr (.inl ⟨T, hT, h⟩)⟩
/-- A region whose orders all lead to states that say no less than one that is told: what follows is shown once. -/
theorem wpc_cut {P : Program} [Known P] {n id : Nat} {ops : Array Oper} {Q : Exit → St → Prop} {s : St} (s' : St) (T : Tr) (hm : P.follows .mixedOrders = true) (hT : okT .any ops false T ops.size (Array.replicate ops.size false) = true) (h : wtr P ops.toList (fun s1 => Le P n s1 s') T s) (hq : Q .normal s') :
    wpc P n (.region id ops true) Q s := ⟨hm, s, Le.refl s, .inr (.inr (.inl ⟨T, s', hT, h, hq⟩))⟩
theorem wpc_readL {P : Program} [Known P] {n id : Nat} {ops : Array Oper} {Q : Exit → St → Prop} {s : St} (T : List Nat) (hm : P.follows .mixedOrders = true) (hT : okH .any ops T ops.size (Array.replicate ops.size false) = true) (h : wtl P ops.toList (Q .normal) T s) :
    wpc P n (.region id ops true) Q s := ⟨hm, s, Le.refl s, .inr (.inr (.inr ⟨T, hT, h⟩))⟩
/-- Ahead of a region that draws its order: of a state that says less. -/
theorem wpc_pre {P : Program} [Known P] {n id : Nat} {ops : Array Oper} {Q : Exit → St → Prop} {s s' : St} (hl : Le P n s s') (h : wpc P n (.region id ops true) Q s') : wpc P n (.region id ops true) Q s := by
  obtain ⟨hm, s1, h1, h2⟩ := h
  exact ⟨hm, s1, fun B a w hn hr => h1 B a w hn (hl B a w hn hr), h2⟩
/-! Trees of orders, closed up. -/
structure NxP (P : Program) [Known P] (ops : List Oper) (k : St → Prop) (t : Tr) (d : Option Tmp) (s : St) (v : AV) : Prop where
  h : wtr P ops k t (s.put d v)
theorem NxP_eq {P : Program} [Known P] {ops : List Oper} {k : St → Prop} {t : Tr} {d : Option Tmp} : NxP P ops k t d = fun s v => wtr P ops k t (s.put d v) := funext fun _ => funext fun _ => propext ⟨NxP.h, NxP.mk⟩
def NxG0 (P : Program) [Known P] (ops : List Oper) (k : St → Prop) (t : Tr) (o : Oper) (g p : Bool) (s : St) : Prop := match p with
  | true => goP P o (wtr P ops k t) g s
  | false => goA P o (wtr P ops k t) g s
structure NxG (P : Program) [Known P] (ops : List Oper) (k : St → Prop) (t : Tr) (o : Oper) (g p : Bool) (s : St) : Prop where
  h : NxG0 P ops k t o g p s
theorem NxG_eq {P : Program} [Known P] {ops : List Oper} {k : St → Prop} {t : Tr} {o : Oper} {g p : Bool} {s : St} : NxG P ops k t o g p s = NxG0 P ops k t o g p s := propext ⟨NxG.h, NxG.mk⟩
theorem wtrE {P : Program} [Known P] : (∀ ops k s, wtr P ops k .done s = k s) ∧ (∀ ops k s, wtr P ops k .stop s = True) ∧
    (∀ ops k i t s, wtr P ops k (.take i t) s = match ops[i]? with
      | some o => gOp ops o s (fun g s => NxG P ops k t o g true s)
      | none => False) ∧
    (∀ ops k i t r s, wtr P ops k (.alt i t r) s = ((match ops[i]? with
      | some o => gOp ops o s (fun g s => NxG P ops k t o g false s)
      | none => False) ∧ wtr P ops k r s)) ∧
    (∀ ops k t dst op ty pos after gu s, NxG P ops k t ⟨dst, op, ty, pos, after, gu⟩ true true s = pst P op s (NxP P ops k t dst s)) ∧
    (∀ ops k t dst op ty pos after gu s, NxG P ops k t ⟨dst, op, ty, pos, after, gu⟩ true false s = stp P op s (NxP P ops k t dst)) ∧
    (∀ ops k t dst op ty pos after gu s p, NxG P ops k t ⟨dst, op, ty, pos, after, gu⟩ false p s = wtr P ops k t (s.put dst (.tup []))) ∧
    (∀ ops k t d s v, NxP P ops k t d s v = wtr P ops k t (s.put d v)) :=
  ⟨fun _ _ _ => rfl, fun _ _ _ => rfl, fun _ _ _ _ _ => by simp only [NxG_eq]; rfl, fun _ _ _ _ _ _ => by simp only [NxG_eq]; rfl, fun _ _ _ _ _ _ _ _ _ _ => by rw [NxG_eq, NxP_eq]; rfl, fun _ _ _ _ _ _ _ _ _ _ => by rw [NxG_eq, NxP_eq]; rfl, fun _ _ _ _ _ _ _ _ _ _ p => by rw [NxG_eq]; cases p <;> rfl, fun _ _ _ _ _ _ => by rw [NxP_eq]⟩
structure NxS (P : Program) [Known P] (ops : List Oper) (k : St → Prop) (t : List Nat) (d : Option Tmp) (s : St) (v : AV) : Prop where
  h : wth P ops k t (s.put d v)
theorem NxS_eq {P : Program} [Known P] {ops : List Oper} {k : St → Prop} {t : List Nat} {d : Option Tmp} : NxS P ops k t d = fun s v => wth P ops k t (s.put d v) := funext fun _ => funext fun _ => propext ⟨NxS.h, NxS.mk⟩
structure NxR (P : Program) [Known P] (ops : List Oper) (k : St → Prop) (t : List Nat) (o : Oper) (g : Bool) (s : St) : Prop where
  h : goH P o (wth P ops k t) g s
theorem NxR_eq {P : Program} [Known P] {ops : List Oper} {k : St → Prop} {t : List Nat} {o : Oper} {g : Bool} {s : St} : NxR P ops k t o g s = goH P o (wth P ops k t) g s := propext ⟨NxR.h, NxR.mk⟩
theorem wthE {P : Program} [Known P] : (∀ ops k s, wth P ops k [] s = k s) ∧
    (∀ ops k i t s, wth P ops k (i :: t) s = match ops[i]? with
      | some o => gOp ops o s (fun g s => NxR P ops k t o g s)
      | none => False) ∧
    (∀ ops k t dst op ty pos after gu s, NxR P ops k t ⟨dst, op, ty, pos, after, gu⟩ true s = hst P op s (NxS P ops k t dst s)) ∧
    (∀ ops k t dst op ty pos after gu s, NxR P ops k t ⟨dst, op, ty, pos, after, gu⟩ false s = wth P ops k t (s.put dst (.tup []))) ∧
    (∀ ops k t d s v, NxS P ops k t d s v = wth P ops k t (s.put d v)) :=
  ⟨fun _ _ _ => rfl, fun _ _ _ _ _ => by simp only [NxR_eq]; rfl, fun _ _ _ _ _ _ _ _ _ _ => by rw [NxR_eq, NxS_eq]; rfl, fun _ _ _ _ _ _ _ _ _ _ => by rw [NxR_eq]; rfl, fun _ _ _ _ _ _ => by rw [NxS_eq]⟩
theorem hstE {P : Program} [Known P] : (∀ t a s K, hst P (.load t a) s K = match tyT P t, s.ev a with
    | some (g, n), .cp o i off => (match geth s.hp o with
      | some ob => i < ob.rows.length ∧ 0 < n ∧ off + n ≤ ob.e ∧ puL (((ob.rows.getD i ob.d).drop off).take n) = true ∧ K (packT g (((ob.rows.getD i ob.d).drop off).take n))
      | none => False)
    | _, _ => pst P (.load t a) s K) ∧
    (∀ t x i s K, hst P (.indexAddr t x i) s K = match elT P t, s.ev x, s.ev i with
    | some (_, e, _), .os o, .int _ j => (match geth s.hp o with
      | some ob => e = ob.e ∧ 0 ≤ j ∧ j < ob.rows.length ∧ K (.cp o j.toNat 0)
      | none => False)
    | _, _, _ => pst P (.indexAddr t x i) s K) ∧
    (∀ c s K, hst P (.call c) s K = pst P (.call c) s K) ∧ (∀ x s K, hst P (.move x) s K = pst P (.move x) s K) ∧ (∀ x s K, hst P (.assign x) s K = pst P (.assign x) s K) ∧
    (∀ x y z s K, hst P (.pick x y z) s K = pst P (.pick x y z) s K) ∧ (∀ x s K, hst P (.nilCheck x) s K = pst P (.nilCheck x) s K) ∧ (∀ t x f s K, hst P (.fieldAddr t x f) s K = pst P (.fieldAddr t x f) s K) ∧
    (∀ t x f s K, hst P (.field t x f) s K = pst P (.field t x f) s K) ∧ (∀ t x f s K, hst P (.index t x f) s K = pst P (.index t x f) s K) ∧ (∀ t x l h m s K, hst P (.slice t x l h m) s K = pst P (.slice t x l h m) s K) ∧
    (∀ op t x y u s K, hst P (.binOp op t x y u) s K = pst P (.binOp op t x y u) s K) ∧ (∀ op t x s K, hst P (.unOp op t x) s K = pst P (.unOp op t x) s K) ∧ (∀ t u x s K, hst P (.convert t u x) s K = pst P (.convert t u x) s K) ∧
    (∀ t ps s K, hst P (.build t ps) s K = pst P (.build t ps) s K) ∧ (∀ t x s K, hst P (.makeInterface t x) s K = pst P (.makeInterface t x) s K) ∧ (∀ x t u b s K, hst P (.typeAssert x t u b) s K = pst P (.typeAssert x t u b) s K) ∧
    (∀ x i s K, hst P (.extract x i) s K = pst P (.extract x i) s K) := by
  refine ⟨?_, ?_, ?_, ?_, ?_, ?_, ?_, ?_, ?_, ?_, ?_, ?_, ?_, ?_, ?_, ?_, ?_, ?_⟩ <;> intros <;> first
    | rfl
    | (simp only [hst]; done)
theorem pstE {P : Program} [Known P] : (∀ c s K, pst P (.call c) s K = match c.callee with
      | .builtin .len => lenP P s c.args.toList c.argTypes.toList K
      | .value f => match s.ev f with
        | .fn g caps => PCall P g (c.args.toList.map s.ev ++ caps) K
        | _ => False
      | .invoke r name => match s.ev r with
        | .iface t v => ∃ f v', Meth P t name f v v' ∧ PCall P f (v' :: c.args.toList.map s.ev) K
        | _ => False
      | _ => False) ∧ (∀ x s K, pst P (.move x) s K = K (s.ev x)) ∧ (∀ x s K, pst P (.assign x) s K = K (s.ev x)) ∧
    (∀ t x s K, pst P (.load t x) s K = stp P (.load t x) ⟨s.tm, [], 0⟩ (Pk K)) ∧ (∀ x y z s K, pst P (.pick x y z) s K = stp P (.pick x y z) ⟨s.tm, [], 0⟩ (Pk K)) ∧
    (∀ x s K, pst P (.nilCheck x) s K = stp P (.nilCheck x) ⟨s.tm, [], 0⟩ (Pk K)) ∧ (∀ t x f s K, pst P (.fieldAddr t x f) s K = stp P (.fieldAddr t x f) ⟨s.tm, [], 0⟩ (Pk K)) ∧
    (∀ t x f s K, pst P (.field t x f) s K = stp P (.field t x f) ⟨s.tm, [], 0⟩ (Pk K)) ∧ (∀ t x f s K, pst P (.indexAddr t x f) s K = stp P (.indexAddr t x f) ⟨s.tm, [], 0⟩ (Pk K)) ∧
    (∀ t x f s K, pst P (.index t x f) s K = stp P (.index t x f) ⟨s.tm, [], 0⟩ (Pk K)) ∧ (∀ t x l h m s K, pst P (.slice t x l h m) s K = stp P (.slice t x l h m) ⟨s.tm, [], 0⟩ (Pk K)) ∧
    (∀ op t x y u s K, pst P (.binOp op t x y u) s K = stp P (.binOp op t x y u) ⟨s.tm, [], 0⟩ (Pk K)) ∧ (∀ op t x s K, pst P (.unOp op t x) s K = stp P (.unOp op t x) ⟨s.tm, [], 0⟩ (Pk K)) ∧
    (∀ t u x s K, pst P (.convert t u x) s K = stp P (.convert t u x) ⟨s.tm, [], 0⟩ (Pk K)) ∧ (∀ t ps s K, pst P (.build t ps) s K = stp P (.build t ps) ⟨s.tm, [], 0⟩ (Pk K)) ∧
    (∀ t x s K, pst P (.makeInterface t x) s K = stp P (.makeInterface t x) ⟨s.tm, [], 0⟩ (Pk K)) ∧ (∀ f x y s K, pst P (.makeFunc f x y) s K = stp P (.makeFunc f x y) ⟨s.tm, [], 0⟩ (Pk K)) ∧
    (∀ x t u b s K, pst P (.typeAssert x t u b) s K = stp P (.typeAssert x t u b) ⟨s.tm, [], 0⟩ (Pk K)) ∧ (∀ x i s K, pst P (.extract x i) s K = stp P (.extract x i) ⟨s.tm, [], 0⟩ (Pk K)) ∧
    (∀ K h v, Pk K ⟨h, [], 0⟩ v = K v) := by
  have e : ∀ (s : St) x, (⟨s.tm, [], 0⟩ : St).ev x = s.ev x := fun s x => by cases x <;> rfl
  refine ⟨?_, ?_, ?_, ?_, ?_, ?_, ?_, ?_, ?_, ?_, ?_, ?_, ?_, ?_, ?_, ?_, ?_, ?_, ?_, ?_⟩ <;> intros <;> first
    | rfl
    | (simp [pst, pureOp, stp, Pk, e]; done)
theorem If_lit {X Y : Prop} : If true X Y = X ∧ If false X Y = Y := ⟨propext ⟨fun h => h.t rfl, fun h => ⟨fun _ => h, fun e => Bool.noConfusion e⟩⟩, propext ⟨fun h => h.f rfl, fun h => ⟨fun e => Bool.noConfusion e, fun _ => h⟩⟩⟩
theorem RetE {P : Program} [Known P] {rs : List ResultVar} {r : AV} {hout : Hp} : (∀ s, RetW P rs r hout .normal s = resW P rs s.tm s.hp (fun vs h => sub (pkR vs) r ∧ selH h hout)) ∧ (∀ s, RetW P rs r hout .ret s = resW P rs s.tm s.hp (fun vs h => sub (pkR vs) r ∧ selH h hout)) :=
  ⟨fun _ => rfl, fun _ => rfl⟩
end Go.Av
end

section
/- Engine, part 15: lists of bytes, lists being filled. -/
set_option linter.unusedVariables false
set_option linter.unusedSimpArgs false
set_option autoImplicit false
namespace Go.Av

def byt (b : UInt8) : List AV := [.int .u8 b.toNat]
theorem getEnc {α : Type} (f : α → List AV) (l : List α) (j : Nat) (d : α) : (l.map f).getD j (f d) = f (l.getD j d) := by
  simp only [List.getD_eq_getElem?_getD, List.getElem?_map]
  cases l[j]? <;> rfl
theorem getByt (l : List UInt8) (j : Nat) : (l.map byt).getD j [.int .u8 0] = [.int .u8 (l.getD j 0).toNat] := getEnc byt l j 0
theorem bytB (l : List UInt8) : (l.map byt).all isB = true ∧ (l.map byt).map cB = l := by
  refine ⟨by simp [byt, isB], ?_⟩
  rw [List.map_map]
  refine (List.map_congr_left fun b _ => ?_).trans (List.map_id l)
  simp [byt, cB]
/-- A list being filled from the front. -/
theorem fillSet {α β : Type} (f : α → β) (l : List α) (z : β) (i : Nat) (d : α) (h : i < l.length) :
    ((l.take i).map f ++ List.replicate (l.length - i) z).set i (f (l.getD i d)) = (l.take (i + 1)).map f ++ List.replicate (l.length - (i + 1)) z := by
  have h1 : ((l.take i).map f).length = i := by simp; omega
  rw [List.set_append_right _ _ (by omega), h1, Nat.sub_self]
  obtain ⟨k, hk⟩ : ∃ k, l.length - i = k + 1 := ⟨l.length - i - 1, by omega⟩
  rw [hk, List.replicate_succ, List.set_cons_zero, show l.length - (i + 1) = k by omega, List.take_add_one, List.getElem?_eq_getElem h]
  simp only [List.getD_eq_getElem?_getD, List.getElem?_eq_getElem h, Option.getD_some, Option.toList_some, List.map_append, List.map_cons, List.map_nil, List.append_assoc, List.cons_append, List.nil_append]
theorem fillAll {α β : Type} (f : α → β) (l : List α) (z : β) (i : Nat) (h : l.length ≤ i) : (l.take i).map f ++ List.replicate (l.length - i) z = l.map f := by
  rw [List.take_of_length_le h, show l.length - i = 0 by omega]; simp
end Go.Av
end

section
/- Engine, part 20: from what a parameter reads as to an abstract value; from a promise to a row. -/
set_option linter.unusedVariables false
set_option linter.unusedSimpArgs false
set_option autoImplicit false
namespace Go.Av
open Go.ChangeShapes Go.WideShapes Go.RowKit

def B0 {P : Program} [Known P] (W : World) (hx : Gx P W) : Base P := ⟨W, fun _ => True, fun _ => 0, 0, fun _ => default, fun b ⟨p, hp, hb⟩ => ⟨by obtain ⟨t, z, ht⟩ := hx.at_ p hp; rw [hb] at ht; exact (Array.getElem?_eq_some_iff.1 ht).1, rfl⟩, hx, []⟩
def C0 (W : World) : Cx := ⟨W, fun b => b < W.heap.size ∧ (0 : Nat) = 0 ∧ (True ∨ W.heap.size ≤ b ∨ (0 : Nat) ≠ 0), fun _ => default, 0⟩
theorem calls_row {P : Program} [Known P] {f : FuncId} {args : List AV} {b : Bool} (h : CallA P f args (.bool b)) {W : World} (hx : Gx P W) {vs : List Value} (hr : RepL (C0 W) args vs (fun _ => 0)) :
    Calls P f vs.toArray W (fun e w' => e = .returned (.bool b) ∧ Below W.heap.size W w') := by
  refine (h (B0 W hx) vs rfl (fun _ => Nat.zero_le _) (fun b hb => absurd rfl hb) hr (fun _ => rfl)).mono fun e w' ⟨r', h', ⟨hr', hh'⟩, v, mu', n', F', Fr, Fh, he, _, _, fin, _, hv, _⟩ => ?_
  subst he
  subst hr'
  refine ⟨by rw [hv.1], fin.os, fin.tape, fin.output, fin.size, fun k hk => fin.old k hk rfl⟩

/-- Whatever reads as a datum of the type T, and is not too large, reads as an abstract value. -/
def Opens {α : Type} (P : Program) [Known P] (T : TypeId) (f : α → List AV) (φ : α → Prop) : Prop :=
  ∀ (H : Type) (enc : TypeId × Value → H) (W : World) (fuel : Nat) (cs : List Value) (x : DataW H × List MemPlace),
    DataW.trod enc P W 0 (fun _ => true) true fuel T cs = some x → (∀ n ∈ x.1.weights P T, n ≤ lim) → ∃ y : α, RepL (C0 W) (f y) cs (fun _ => 0) ∧ (∀ v ∈ cs, v.oneCell' = true) ∧ φ y
theorem rep1 {C : Cx} {a : AV} {v : Value} (h : Rep C a v (fun _ => 0)) : RepL C [a] [v] (fun _ => 0) := ⟨v, [], _, _, rfl, h, ⟨rfl, fun _ => rfl⟩, fun _ => rfl⟩
theorem wf_wrap {k : IntKind} {n : Int} (h : (Lit.int k n).wf = true) : k.wrap n = n := by
  rw [wrap_iff]
  simp only [Lit.wf, Bool.and_eq_true, decide_eq_true_eq] at h
  cases k <;> simp [IntKind.signed, IntKind.bits, IntKind.min, IntKind.max] at h ⊢ <;> omega
theorem opens_int {P : Program} [Known P] {T : TypeId} {k : IntKind} (ht : P.underlying T = some (.int k)) : Opens P T (fun n => [.int k n]) (fun n => k.wrap n = n) := by
  intro H enc W fuel cs x h _
  obtain ⟨n, rfl, _, hw⟩ := DataW.trod_int ht h
  exact ⟨n, rep1 (rep_int (wf_wrap hw)), by intro v hv; simp at hv; subst hv; rfl, wf_wrap hw⟩
theorem opens_byte {P : Program} [Known P] {T : TypeId} (ht : P.underlying T = some (.int .u8)) : Opens P T byt (fun _ => True) := by
  intro H enc W fuel cs x h _
  obtain ⟨n, rfl, _, hw⟩ := DataW.trod_int ht h
  have hn : n = ((UInt8.ofNat n.toNat).toNat : Int) := by
    simp only [Lit.wf, Bool.and_eq_true, decide_eq_true_eq] at hw
    simp [IntKind.min, IntKind.max, IntKind.signed, IntKind.bits] at hw
    simp only [UInt8.toNat_ofNat']
    omega
  refine ⟨UInt8.ofNat n.toNat, ?_, by intro v hv; simp at hv; subst hv; rfl, trivial⟩
  unfold byt
  rw [← hn]
  exact rep1 (rep_int (wf_wrap hw))
theorem opens_bool {P : Program} [Known P] {T : TypeId} (ht : P.underlying T = some .bool) : Opens P T (fun b => [.bool b]) (fun _ => True) := by
  intro H enc W fuel cs x h _
  obtain ⟨b, rfl, _⟩ := DataW.trod_bool ht h
  exact ⟨b, rep1 ⟨rfl, fun _ => rfl⟩, by intro v hv; simp at hv; subst hv; rfl, trivial⟩
theorem opens_string {P : Program} [Known P] {T : TypeId} (ht : P.underlying T = some .string) : Opens P T (fun s => [.str s]) (fun s => s.size ≤ lim) := by
  intro H enc W fuel cs x h hw
  obtain ⟨s, rfl, rfl, hs⟩ := DataW.trod_string ht h
  have : s.size ≤ lim := hw s.size (by simp [DataW.weights])
  exact ⟨s, rep1 ⟨rfl, this, fun _ => rfl⟩, by intro v hv; simp at hv; subst hv; rfl, this⟩
theorem weightsAll_mem {H : Type} {P : Program} [Known P] {e : TypeId} : ∀ {l : List (DataW H)} {d : DataW H}, d ∈ l → ∀ n ∈ d.weights P e, n ∈ DataW.weightsAll P e l
  | _ :: l, d, hd, n, hn => by
    rw [DataW.weightsAll, List.mem_append]
    rcases List.mem_cons.1 hd with rfl | hd
    · exact .inl hn
    · exact .inr (weightsAll_mem hd n hn)
theorem RepA.of {C : Cx} : ∀ (l : List AV) (us : List Value) (ad : Addr) (j : Nat), RepL C l us (fun _ => 0) → C.ok ad.block → (∀ i u, us[i]? = some u → C.w.cell? (ad.add (j + i)) = some u) → (∀ u ∈ us, u.oneCell' = true) → RepA C l ad j
  | [], us, ad, j, h, _, _, _ => trivial
  | x :: l, us, ad, j, h, ho, hc, h1 => by
    obtain ⟨v, vs, F1, F2, rfl, k1, k2, k3⟩ := h
    obtain ⟨rfl, rfl⟩ := zero_split k3
    exact ⟨⟨ho, v, hc 0 v rfl, h1 v (by simp), k1⟩, RepA.of l vs ad (j + 1) k2 ho (fun i u hi => by have := hc (i + 1) u (by simpa using hi); rwa [show j + 1 + i = j + (i + 1) by omega]) (fun u hu => h1 u (by simp [hu]))⟩
theorem RepR.of {C : Cx} {e : Nat} {ad : Addr} : ∀ (l : List (List AV)) (i : Nat), (∀ j r, l[j]? = some r → r.length = e ∧ RepA C r ad ((i + j) * e)) → RepR C e l (some ad) i
  | [], i, h => trivial
  | r :: l, i, h => ⟨⟨ad, rfl, h 0 r rfl⟩, RepR.of l (i + 1) (fun j r hj => by have := h (j + 1) r (by simpa using hj); rwa [show i + 1 + j = i + (j + 1) by omega])⟩
theorem cells_len {w : World} {base : Nat} {a : Addr} {n : Nat} {cs : List Value} (h : w.cells? base a n = some cs) : cs.length = n := by
  unfold World.cells? at h
  split at h
  · have := mapM_some_length h
    simpa using this
  · cases h
theorem cells_at {w : World} {base : Nat} {a : Addr} {n : Nat} {cs : List Value} (h : w.cells? base a n = some cs) (i : Nat) (u : Value) (hu : cs[i]? = some u) : w.cell? (a.add i) = some u := by
  have hl := cells_len h
  have hi : i < n := by rw [← hl]; exact (List.getElem?_eq_some_iff.1 hu).1
  unfold World.cells? at h
  split at h
  · have := mapM_some_get h i i (by simp [hi])
    rw [this]; exact hu
  · cases h
theorem cell_block {w : World} {a : Addr} {u : Value} (h : w.cell? a = some u) : a.block < w.heap.size := by
  refine Classical.byContradiction fun hn => ?_
  unfold World.cell? at h
  rw [Array.getElem?_eq_none (by omega)] at h
  simp at h
theorem opens_slice {α : Type} {P : Program} [Known P] {t e : TypeId} {f : α → List AV} {φ : α → Prop} (d : List AV) (n : Nat) (ht : P.underlying t = some (.slice e)) (hc : P.cellsOf e = n) (hn : n ≠ 0) (hb : P.bytesOf e ≠ 0) (hd : Opens P e f φ) :
    Opens P t (fun l : List α => [.sl n (l.map f) d]) (fun l => l.length * P.bytesOf e ≤ lim ∧ ∀ x ∈ l, φ x) := by
  intro H enc W fuel cs x h hw
  rcases Go.Deep.open_slice ht h with ⟨rfl, _⟩ | ⟨a, len, cap, m, n', D, Pl, rfl, _, hl, hm, hmeq, rfl, hel⟩
  · exact ⟨[], rep1 ⟨⟨none, 0, rfl, Nat.le_refl _, Nat.zero_le _, trivial⟩, fun _ => rfl⟩, by intro v hv; simp at hv; subst hv; rfl, by simp, by simp⟩
  · have hlm : len ≤ m := by rw [hmeq]; simpa using hl
    subst hc
    have hwl : len * P.bytesOf e ≤ lim := by
      have := hw ((len + (m - len)) * P.bytesOf e) (by simp only [DataW.weights, ht, List.length_map, List.length_range]; simp)
      exact Nat.le_trans (Nat.mul_le_mul_right _ (by omega)) this
    have hwe : ∀ i, i < len → ∀ k ∈ (D i).weights P e, k ≤ lim := fun i hi k hk => hw k (by
      simp only [DataW.weights, ht, List.mem_cons, List.mem_append]
      exact .inr (.inl (weightsAll_mem (List.mem_map.2 ⟨i, by simpa using hi, rfl⟩) k hk)))
    have hex : ∀ i : _root_.Fin len, ∃ y : α, φ y ∧ ∃ c : List Value, c.length = P.cellsOf e ∧ RepL (C0 W) (f y) c (fun _ => 0) ∧ (∀ v ∈ c, v.oneCell' = true) ∧ ∀ j u, c[j]? = some u → W.cell? (a.add (i.1 * P.cellsOf e + j)) = some u := by
      intro i
      obtain ⟨c, h1, h2⟩ := hel i.1 (by omega)
      obtain ⟨y, hy, ho, hp⟩ := hd H enc W n' c _ h2 (hwe i.1 i.2)
      refine ⟨y, hp, c, cells_len h1, hy, ho, fun j u hu => ?_⟩
      have := cells_at h1 j u hu
      rwa [Go.Deep.add_add] at this
    let g : _root_.Fin len → α := fun i => Classical.choose (hex i)
    have hg : ∀ i : _root_.Fin len, φ (g i) ∧ ∃ c : List Value, c.length = P.cellsOf e ∧ RepL (C0 W) (f (g i)) c (fun _ => 0) ∧ (∀ v ∈ c, v.oneCell' = true) ∧ ∀ j u, c[j]? = some u → W.cell? (a.add (i.1 * P.cellsOf e + j)) = some u := fun i => Classical.choose_spec (hex i)
    have hlen : (List.ofFn g).length = len := List.length_ofFn
    have hlen2 : len ≤ lim := Nat.le_trans (Nat.le_mul_of_pos_right _ (Nat.pos_of_ne_zero hb)) hwl
    refine ⟨List.ofFn g, rep1 ⟨⟨some a, cap, by rw [List.length_map, hlen], by rw [List.length_map, hlen]; exact hl, by rw [List.length_map, hlen]; exact hlen2, RepR.of _ 0 fun j r hj => ?_⟩, fun _ => rfl⟩, by intro v hv; simp at hv; subst hv; rfl, by rw [hlen]; exact hwl, ?_⟩
    · rw [List.getElem?_map] at hj
      have hjl : j < len := by
        refine Classical.byContradiction fun hn => ?_
        rw [List.getElem?_eq_none (by omega)] at hj
        simp at hj
      have hr : r = f (g ⟨j, hjl⟩) := by
        rw [List.getElem?_eq_getElem (by omega)] at hj
        simpa using hj.symm
      obtain ⟨_, c, h1, h2, h3, h4⟩ := hg ⟨j, hjl⟩
      have hrl : r.length = P.cellsOf e := by rw [hr, ← RepL.length _ _ _ h2, h1]
      refine ⟨hrl, ?_⟩
      have hcb : a.block < W.heap.size := by
        have h0 : 0 < c.length := by omega
        have := cell_block (h4 0 _ (List.getElem?_eq_getElem h0))
        rwa [add_block] at this
      rw [Nat.zero_add, hr]
      exact RepA.of _ c a _ h2 ⟨hcb, rfl, .inl trivial⟩ h4 h3
    · intro x hx
      obtain ⟨i, rfl⟩ := List.mem_ofFn.1 hx
      exact (hg i).1
end Go.Av
end

section
/- Engine, part 21: calls, in few words. -/
set_option linter.unusedVariables false
set_option linter.unusedSimpArgs false
set_option autoImplicit false
namespace Go.Av
variable {P : Program}

theorem enters_of [Known P] {f : FuncId} {fn : Func} (hf : P.funcs[f]? = some fn) (hn : (fn.name == "runtime.NumGoroutine") = false) (hb : fn.body.isNone = false) : Enters P f := by
  intro args w
  simp only [callFunc, Sem.run_bind, run_program, Result.andThen_ok, hf, hn, hb, Bool.false_eq_true, if_false, Sem.run_pure]
/-- Plain facts, under one name. -/
theorem eE : (∀ {α : Type} {a b : List α}, a.append b = a ++ b) ∧ (∀ {α : Type} {a b : List α}, (a ++ b).length = a.length + b.length) ∧ (∀ b : Bool, (b && false) = false) ∧ (∀ b : Bool, (true && b) = b) ∧ (∀ b : Bool, (false && b) = false) ∧ (∀ b : Bool, (b && true) = b) ∧ (∀ b : Bool, (b || true) = true) ∧ (∀ b : Bool, (b || false) = b) ∧
    (∀ {α : Type} {a b : α}, (some a).getD b = a) ∧ (∀ {α : Type} (a b : α), cond true a b = a) ∧ (∀ {α : Type} (a b : α), cond false a b = b) ∧ (∀ p : Prop, (True ∧ p) = p) ∧ (∀ p : Prop, (p ∧ True) = p) ∧ (∀ {α β : Type} {f : α → β} {a : α} {l : List α}, List.map f (a :: l) = f a :: List.map f l) ∧ (∀ {α β : Type} {f : α → β}, List.map f [] = []) ∧
    (∀ {α : Type} {a : α} {l : List α}, (a :: l).length = l.length + 1) ∧ (∀ {α : Type}, ([] : List α).length = 0) ∧ (∀ {α : Type} {x : α} {xs : List α} {d : α}, (x :: xs).getD 0 d = x) ∧ (∀ {α : Type} {x : α} {xs : List α} {n : Nat} {d : α}, (x :: xs).getD (n + 1) d = xs.getD n d) ∧ (∀ n : Nat, 0 + n = n) ∧ (∀ b : Bool, (b && b) = b) ∧
    (∀ n : Nat, n < n + 1) ∧ (∀ n : Nat, n ≤ n) ∧ ((!true) = false) ∧ ((!false) = true) ∧ (∀ {α : Type} {a : α} {l r : List α}, a :: l ++ r = a :: (l ++ r)) ∧ (∀ {α : Type} (l : List α), [] ++ l = l) ∧ (∀ b : Bool, (true || b) = true) ∧ (∀ b : Bool, (false || b) = b) ∧ (∀ {α β : Type} {l : List α} (f : α → β), (List.map f l).length = l.length) ∧ (∀ b : Bool, (b || b) = b) ∧
    (∀ n : Nat, n + 0 = n) ∧ (∀ n : Nat, (n : Int).toNat = n) ∧ (∀ {α : Type} {a : α}, List.replicate 0 a = []) ∧ (Int.toNat 0 = 0) :=
  ⟨List.append_eq, List.length_append, Bool.and_false, Bool.true_and, Bool.false_and, Bool.and_true, Bool.or_true, Bool.or_false, Option.getD_some, cond_true, cond_false, true_and, and_true, List.map_cons, List.map_nil, List.length_cons, List.length_nil, List.getD_cons_zero, List.getD_cons_succ, Nat.zero_add, Bool.and_self,
    Nat.lt_add_one, Nat.le_refl, Bool.not_true, Bool.not_false, List.cons_append, List.nil_append, Bool.true_or, Bool.false_or, List.length_map, Bool.or_self, Nat.add_zero, Int.toNat_natCast, List.replicate_zero, Int.toNat_zero⟩
/-- A function's whole promise. -/
structure Fun (P : Program) [Known P] (f : FuncId) (args : List AV) (r : AV) : Prop where
  en : Enters P f
  call : CallA P f args r
theorem fun_of [Known P] {f : FuncId} {fn : Func} {args : List AV} {r : AV} (hf : P.funcs[f]? = some fn) (hn : (fn.name == "runtime.NumGoroutine") = false) (hb : fn.body.isSome = true) (hfit : fitC fn.ntmps (fn.body.getD .skip) = true) (ha : Nat.ble args.length fn.ntmps = true)
    (h : limL args → wpc P 0 (fn.body.getD .skip) (RetW P fn.results.toList r []) ⟨argTm 0 args, [], 0⟩) : Fun P f args r :=
  ⟨enters_of hf hn (by cases hc : fn.body <;> simp_all), callM_of hf hb hfit ha h⟩
theorem Fun.plain [Known P] {f : FuncId} {args args' : List AV} {r : AV} {s : St} {K : St → AV → Prop} (h : Fun P f args' r) (e : args.map AV.nbV = args') (np : npL args = true) (tp : r.top2 = true) (rn : r.np = true)
    (k : K ⟨s.tm, (inst s.nx r).2.1 ++ s.hp, (inst s.nx r).2.2⟩ (inst s.nx r).1) : CallW P f args s K := .plain (fun r' => r' = r) np h.en (e ▸ h.call) fun r' hr => by subst hr; exact ⟨tp, rn, k⟩
theorem Fun.lent [Known P] {f : FuncId} {args args' : List AV} {r : AV} {s : St} {K : St → AV → Prop} (h : Fun P f args' r) (e : (args.map (pur 4 s.hp)).map AV.nbV = args') (np : npL (args.map (pur 4 s.hp)) = true) (tp : r.top2 = true) (rn : r.np = true) (na : r.na = true)
    (k : K ⟨s.tm, (inst s.nx r).2.1 ++ s.hp, (inst s.nx r).2.2⟩ (inst s.nx r).1) : CallW P f args s K := .lent (fun r' => r' = r) np h.en (e ▸ h.call) fun r' hr => by subst hr; exact ⟨tp, rn, na, k⟩
theorem Fun.pcall [Known P] {f : FuncId} {args args' : List AV} {r : AV} {K : AV → Prop} (h : Fun P f args' r) (e : args.map AV.nbV = args') (np : npL args = true) (tp : r.top2 = true) (rn : r.np = true) (pu : r.pu = true) (k : K r) : PCall P f args K :=
  ⟨r, np, tp, rn, pu, h.en, e ▸ h.call, k⟩
/-- The same of a function that writes objects that it is lent. -/
structure FunM (P : Program) [Known P] (f : FuncId) (n : Nat) (args : List AV) (hin : Hp) (r : AV) (hout : Hp) : Prop where
  en : Enters P f
  call : CallM P f n args hin r hout
theorem fun_ofM [Known P] {f : FuncId} {fn : Func} {n : Nat} {args : List AV} {hin hout : Hp} {r : AV} (hf : P.funcs[f]? = some fn) (hn : (fn.name == "runtime.NumGoroutine") = false) (hb : fn.body.isSome = true) (hfit : fitC fn.ntmps (fn.body.getD .skip) = true) (ha : Nat.ble args.length fn.ntmps = true)
    (h : limL args → wpc P n (fn.body.getD .skip) (RetW P fn.results.toList r hout) ⟨argTm 0 args, hin, n⟩) : FunM P f n args hin r hout :=
  ⟨enters_of hf hn (by cases hc : fn.body <;> simp_all), callM_of hf hb hfit ha h⟩
theorem FunM.lend [Known P] {f : FuncId} {n : Nat} {args args' : List AV} {hin hout : Hp} {r : AV} {s : St} {K : St → AV → Prop} (h : FunM P f n args' hin r hout) (ρ : Ren) (N : Nat) (fu : fullR ρ s.nx n) (ke : keysR n ρ) (ha : subL (args.map AV.nbV) (renL ρ args') ∧ nblL ρ n args') (hh : leH ρ n s.hp hin)
    (bh : blwH (n + N) hout) (br : blw (n + N) r) (rp : r.pu = true) (k : K ⟨s.tm, mapH (sg ρ s.nx n) hout ++ takeH ρ s.hp hin, s.nx + N⟩ (mapN (sg ρ s.nx n) r)) : CallW P f args s K :=
  .lend ρ n args' hin _ fu ke ha hh h.en h.call fun r' hout' hr => by obtain ⟨rfl, rfl⟩ := hr; exact ⟨N, bh, br, rp, k⟩
abbrev B (l : List UInt8) : AV := .sl 1 (l.map byt) [.int .u8 0]
abbrev BO (l : List UInt8) : AV := .own 1 (l.map byt) [.int .u8 0]
abbrev BH (l : List UInt8) : Ob := ⟨1, l.map byt, [.int .u8 0], false⟩
theorem rdR_map {α : Type} (f : α → List AV) (hf : ∀ x, rdL (f x) = f x) : ∀ l : List α, rdR (l.map f) = l.map f
  | [] => rfl
  | x :: l => by rw [List.map_cons, rdR, hf, rdR_map f hf l]
theorem rdR_byt (l : List UInt8) : rdR (l.map byt) = l.map byt := rdR_map byt (fun _ => rfl) l
theorem naR_map {α : Type} (f : α → List AV) (hf : ∀ x, naL (f x) = true) : ∀ l : List α, naR (l.map f) = true
  | [] => rfl
  | x :: l => by rw [List.map_cons, naR, hf, naR_map f hf l]; rfl
theorem naR_byt (l : List UInt8) : naR (l.map byt) = true := naR_map byt (fun _ => rfl) l
theorem nneg (n : Nat) : decide ((n : Int) < 0) = false := decide_eq_false (by omega)
/-- Bytes marked from m on. -/
def mkl (m n : Nat) : List UInt8 := (List.range n).map fun j => UInt8.ofNat (m + j)
def mks (m i : Nat) (l : List UInt8) : List UInt8 := mkl m i ++ l.drop i
theorem mkl_length (m n : Nat) : (mkl m n).length = n := by simp [mkl]
theorem mks_length {m i : Nat} {l : List UInt8} (h : i ≤ l.length) : (mks m i l).length = l.length := by simp [mks, mkl]; omega
theorem mks_all (m : Nat) (l : List UInt8) : mks m l.length l = mkl m l.length := by simp [mks]
theorem mks_set {m i : Nat} {l : List UInt8} (h : i < l.length) : (mks m i l).set i (UInt8.ofNat (m + i)) = mks m (i + 1) l := by
  unfold mks mkl
  have hl : ((List.range i).map fun j => UInt8.ofNat (m + j)).length = i := by simp
  rw [List.set_append_right _ _ (by omega), hl, Nat.sub_self, List.drop_eq_getElem_cons h, List.set_cons_zero, List.range_succ, List.map_append, List.append_assoc]
  rfl
theorem mkl_get {m n j : Nat} (h : j < n) : (mkl m n).getD j 0 = UInt8.ofNat (m + j) := by
  unfold mkl
  rw [List.getD_eq_getElem?_getD, List.getElem?_map, List.getElem?_range h]; rfl
theorem wrap_byte (m : Nat) : IntKind.u8.wrap (m : Int) = ((UInt8.ofNat m).toNat : Int) := by
  simp [IntKind.wrap, IntKind.bits, IntKind.signed]
/-! ### Promises that leave open which of several results comes -/
structure FunX (P : Program) [Known P] (f : FuncId) (n : Nat) (args : List AV) (hin : Hp) (Q : AV → Hp → Prop) : Prop where
  en : Enters P f
  call : CallX P f n args hin Q
theorem fun_ofX [Known P] {f : FuncId} {fn : Func} {n : Nat} {args : List AV} {hin : Hp} {Q : AV → Hp → Prop} (hf : P.funcs[f]? = some fn) (hn : (fn.name == "runtime.NumGoroutine") = false) (hb : fn.body.isSome = true) (hfit : fitC fn.ntmps (fn.body.getD .skip) = true) (ha : Nat.ble args.length fn.ntmps = true)
    (h : limL args → wpc P n (fn.body.getD .skip) (RetX P fn.results.toList Q) ⟨argTm 0 args, hin, n⟩) : FunX P f n args hin Q :=
  ⟨enters_of hf hn (by cases hc : fn.body <;> simp_all), callX_of hf hb hfit ha h⟩
theorem fun_ofR [Known P] {f : FuncId} {fn : Func} {n : Nat} {args : List AV} {hin : Hp} {Q : AV → Hp → Prop} (hf : P.funcs[f]? = some fn) (hn : (fn.name == "runtime.NumGoroutine") = false) (hb : fn.body.isSome = true) (hfit : fitC fn.ntmps (fn.body.getD .skip) = true) (ha : Nat.ble args.length fn.ntmps = true)
    (h : limL args → wpc P n (fn.body.getD .skip) (RetR P fn.results.toList Q) ⟨argTm 0 args, hin, n⟩) : FunX P f n args hin Q :=
  ⟨enters_of hf hn (by cases hc : fn.body <;> simp_all), callR_of hf hb hfit ha h⟩
theorem RetRE {P : Program} [Known P] {rs : List ResultVar} {Q : AV → Hp → Prop} : (∀ s, RetR P rs Q .normal s = resR P rs s.tm s.hp (fun vs => ∃ r hout, Q r hout ∧ sub (pkR vs) r ∧ selH s.hp hout)) ∧ (∀ s, RetR P rs Q .ret s = resR P rs s.tm s.hp (fun vs => ∃ r hout, Q r hout ∧ sub (pkR vs) r ∧ selH s.hp hout)) :=
  ⟨fun _ => rfl, fun _ => rfl⟩
theorem FunX.plain [Known P] {f : FuncId} {args args' : List AV} {Q : AV → Prop} {s : St} {K : St → AV → Prop} (h : FunX P f 0 args' [] (fun r h => Q r ∧ h = [])) (e : args.map AV.nbV = args') (np : npL args = true)
    (k : ∀ r, Q r → r.top2 = true ∧ r.np = true ∧ K ⟨s.tm, (inst s.nx r).2.1 ++ s.hp, (inst s.nx r).2.2⟩ (inst s.nx r).1) : CallW P f args s K := .plain Q np h.en (e ▸ h.call) k
theorem FunX.lent [Known P] {f : FuncId} {args args' : List AV} {Q : AV → Prop} {s : St} {K : St → AV → Prop} (h : FunX P f 0 args' [] (fun r h => Q r ∧ h = [])) (e : (args.map (pur 4 s.hp)).map AV.nbV = args') (np : npL (args.map (pur 4 s.hp)) = true)
    (k : ∀ r, Q r → r.top2 = true ∧ r.np = true ∧ r.na = true ∧ K ⟨s.tm, (inst s.nx r).2.1 ++ s.hp, (inst s.nx r).2.2⟩ (inst s.nx r).1) : CallW P f args s K := .lent Q np h.en (e ▸ h.call) k
theorem FunX.lend [Known P] {f : FuncId} {n : Nat} {args args' : List AV} {hin : Hp} {Q : AV → Hp → Prop} {s : St} {K : St → AV → Prop} (h : FunX P f n args' hin Q) (ρ : Ren) (fu : fullR ρ s.nx n) (ke : keysR n ρ) (ha : subL (args.map AV.nbV) (renL ρ args') ∧ nblL ρ n args') (hh : leH ρ n s.hp hin)
    (k : ∀ r hout, Q r hout → ∃ N, blwH (n + N) hout ∧ blw (n + N) r ∧ r.pu = true ∧ K ⟨s.tm, mapH (sg ρ s.nx n) hout ++ takeH ρ s.hp hin, s.nx + N⟩ (mapN (sg ρ s.nx n) r)) : CallW P f args s K := .lend ρ n args' hin Q fu ke ha hh h.en h.call k
theorem RetXE {P : Program} [Known P] {rs : List ResultVar} {Q : AV → Hp → Prop} : (∀ s, RetX P rs Q .normal s = resW P rs s.tm s.hp (fun vs h => ∃ r hout, Q r hout ∧ sub (pkR vs) r ∧ selH h hout)) ∧ (∀ s, RetX P rs Q .ret s = resW P rs s.tm s.hp (fun vs h => ∃ r hout, Q r hout ∧ sub (pkR vs) r ∧ selH h hout)) :=
  ⟨fun _ => rfl, fun _ => rfl⟩
end Go.Av
end

section
/- Engine, part 22: methods behind interfaces. -/
set_option linter.unusedVariables false
set_option linter.unusedSimpArgs false
set_option autoImplicit false
namespace Go.Av
variable {P : Program}

def npT (P : Program) [Known P] (t : TypeId) : Bool := match P.underlying t with
  | some (.pointer _) => false
  | some _ => true
  | none => false
def fnpT (P : Program) [Known P] (t : TypeId) (i : Nat) : Bool := match P.underlying t with
  | some (.struct fs) => match fs[i]? with
    | some x => npT P x.type
    | none => false
  | _ => false
/-- A type's method by its name: its function, and the field through which it is promoted. -/
def mthT (P : Program) [Known P] (t : TypeId) (name : String) : Option (FuncId × Option Nat) := match P.info? t with
  | some i => match i.methods.find? (·.name == name) with
    | some m => match m.func, m.path.toList with
      | some (f, false), [] => bif npT P t then some (f, none) else none
      | some (f, false), [st] => bif Nat.beq st.struct t && !st.deref && fnpT P t st.index then some (f, some st.index) else none
      | _, _ => none
    | none => none
  | none => none
theorem npT_spec [Known P] {t : TypeId} (h : npT P t = true) : ∃ d, P.underlying t = some d ∧ ∀ e, d ≠ .pointer e := by
  unfold npT at h
  split at h
  · cases h
  · rename_i d hn hd
    exact ⟨_, by assumption, fun e he => by subst he; simp_all⟩
  · cases h
theorem receiver_run [Known P] {t : TypeId} (h : npT P t = true) (v : Value) (nm : Option String) (w : World) : (receiverAt t (.val v) false nm).run P w = .ok v w := by
  obtain ⟨d, hd, hn⟩ := npT_spec h
  simp only [receiverAt, underlying, Sem.run_bind, run_program, Result.andThen_ok, hd, Sem.run_pure]
  cases d <;> first | (exact absurd rfl (hn _)) | rfl
theorem meth_of [Known P] {t : TypeId} {name : String} {f : FuncId} {v : AV} (h : mthT P t name = some (f, none)) (en : Enters P f) : Meth P t name f v v := by
  intro C u hu
  refine ⟨u, hu, fun args w => ?_⟩
  unfold mthT at h
  split at h
  · rename_i i hi
    split at h
    · rename_i m hm
      split at h
      · rename_i g hf hp
        cases hn : npT P t with
        | false => rw [hn] at h; simp at h
        | true =>
          rw [hn] at h
          simp only [cond_true, Option.some.injEq, Prod.mk.injEq, and_true] at h
          obtain rfl := h
          obtain ⟨k, hsz⟩ : ∃ k, P.types.size + Made.depth = k + 1 := ⟨P.types.size + 99, rfl⟩
          simp only [callMethod, Sem.run_bind, run_program, Result.andThen_ok, hsz, method, typeInfo, hi, Sem.run_pure, hm, hp, follow, hf, receiver_run hn]
          exact en _ _
      · rename_i st hf hp
        cases hb : (Nat.beq st.struct t && !st.deref && fnpT P t st.index) <;> rw [hb] at h <;> simp at h
      · cases h
    · cases h
  · cases h
theorem meth_promo [Known P] {t : TypeId} {name : String} {f i off n : Nat} {l : List AV} (h : mthT P t name = some (f, some i)) (hfl : fldT P t i = some (off, true, n)) (en : Enters P f) (hl : off + n ≤ l.length) : Meth P t name f (.agg l) (.agg ((l.drop off).take n)) := by
  rintro C _ ⟨cs, rfl, hL⟩
  have hlen := RepL.length _ _ _ hL
  refine ⟨.agg ((cs.drop off).take n).toArray, ⟨_, rfl, RepL.take n _ _ (repL_drop off _ _ hL)⟩, fun args w => ?_⟩
  unfold mthT at h
  split at h
  · rename_i ti hi
    split at h
    · rename_i m hm
      split at h
      · rename_i g hf hp
        cases hn : npT P t <;> rw [hn] at h <;> simp at h
      · rename_i g st hf hp
        cases hb : (Nat.beq st.struct t && !st.deref && fnpT P t st.index) with
        | false => rw [hb] at h; simp at h
        | true =>
          rw [hb] at h
          simp only [cond_true, Option.some.injEq, Prod.mk.injEq] at h
          obtain ⟨rfl, rfl⟩ := h
          simp only [Bool.and_eq_true, Bool.not_eq_true'] at hb
          obtain ⟨⟨h1, h2⟩, h3⟩ := hb
          have h1 := Nat.eq_of_beq_eq_true h1
          obtain ⟨fs, y, hu, hy, rfl, ht, hne⟩ := fldT_spec hfl
          unfold fnpT at h3
          rw [hu] at h3
          simp only [hy] at h3
          obtain ⟨k, hsz⟩ : ∃ k, P.types.size + Made.depth = k + 1 := ⟨P.types.size + 99, rfl⟩
          simp only [callMethod, Sem.run_bind, run_program, Result.andThen_ok, hsz, method, typeInfo, hi, Sem.run_pure, hm, hp, follow, h1, underlying, hu, hy, h2, Bool.false_eq_true, if_false, hf, part_run ht (Nat.pos_of_ne_zero hne) (by rw [hlen]; exact hl), receiver_run h3, if_true]
          exact en _ _
      · cases h
    · cases h
  · cases h
end Go.Av
end

section
/- Engine, part 23: structs that come in; rows. -/
set_option linter.unusedVariables false
set_option linter.unusedSimpArgs false
set_option autoImplicit false
namespace Go.Av
open Go.ChangeShapes Go.WideShapes Go.RowKit

def OpensF {α : Type} (P : Program) [Known P] (fs : Array Field) (n j off : Nat) (f : α → List AV) (φ : α → Prop) : Prop :=
  ∀ (H : Type) (enc : TypeId × Value → H) (W : World) (m : Nat) (cs : List Value) (xs : List (DataW H × List MemPlace)), cs.length = n → xs.length = fs.size →
    (∀ (i : Nat) (fd : Field), fs[i]? = some fd → DataW.trod enc P W 0 (fun _ => true) true m fd.type ((cs.drop fd.offset).take (P.cellsOf fd.type)) = xs[i]?) →
    (∀ (i : Nat) (fd : Field) x, fs[i]? = some fd → xs[i]? = some x → ∀ k ∈ x.1.weights P fd.type, k ≤ lim) →
    ∃ y : α, RepL (C0 W) (f y) (cs.drop off) (fun _ => 0) ∧ (∀ v ∈ cs.drop off, v.oneCell' = true) ∧ φ y
theorem OpensF.nil {P : Program} [Known P] {fs : Array Field} {n j off : Nat} (h : n ≤ off) : OpensF P fs n j off (fun _ : Unit => []) (fun _ => True) := by
  intro H enc W m cs xs hl _ _ _
  rw [List.drop_of_length_le (by omega)]
  exact ⟨(), ⟨rfl, fun _ => rfl⟩, by simp, trivial⟩
theorem RepL.join {C : Cx} : ∀ (l l' : List AV) (us us' : List Value), RepL C l us (fun _ => 0) → RepL C l' us' (fun _ => 0) → RepL C (l ++ l') (us ++ us') (fun _ => 0)
  | [], l', us, us', h, h' => by obtain ⟨rfl, _⟩ := h; exact h'
  | x :: l, l', us, us', h, h' => by
    obtain ⟨v, vs, F1, F2, rfl, k1, k2, k3⟩ := h
    obtain ⟨rfl, rfl⟩ := zero_split k3
    exact ⟨v, vs ++ us', _, _, rfl, k1, RepL.join l l' vs us' k2 h', fun _ => rfl⟩
theorem OpensF.cons {α β : Type} {P : Program} [Known P] {fs : Array Field} {n j off k t : Nat} {f : α → List AV} {φ : α → Prop} {g : β → List AV} {ψ : β → Prop} (hf : (fs[j]?).map (fun fd => (fd.type, fd.offset)) = some (t, off)) (hc : P.cellsOf t = k)
    (hd : Opens P t f φ) (hr : OpensF P fs n (j + 1) (off + k) g ψ) : OpensF P fs n j off (fun y : α × β => f y.1 ++ g y.2) (fun y => φ y.1 ∧ ψ y.2) := by
  intro H enc W m cs xs hl hx ht hw
  obtain ⟨fd, hfd, he⟩ := Option.map_eq_some_iff.1 hf
  simp only [Prod.mk.injEq] at he
  obtain ⟨rfl, rfl⟩ := he
  have hj : j < xs.length := by
    rw [hx]
    exact (Array.getElem?_eq_some_iff.1 hfd).1
  have h1 := ht j fd hfd
  rw [List.getElem?_eq_getElem hj] at h1
  obtain ⟨y, r1, r2, r3⟩ := hd H enc W m _ _ h1 (hw j fd _ hfd (List.getElem?_eq_getElem hj))
  obtain ⟨z, s1, s2, s3⟩ := hr H enc W m cs xs hl hx ht hw
  rw [hc] at r1 r2
  have e : cs.drop fd.offset = (cs.drop fd.offset).take k ++ cs.drop (fd.offset + k) := by
    rw [← List.drop_drop, List.take_append_drop]
  refine ⟨(y, z), ?_, ?_, r3, s3⟩
  · rw [e]; exact RepL.join _ _ _ _ r1 s1
  · intro v hv
    rw [e, List.mem_append] at hv
    exact hv.elim (r2 v) (s2 v)
theorem opens_struct {α : Type} {P : Program} [Known P] {T n : Nat} {fs : Array Field} {f : α → List AV} {φ : α → Prop} (ht : P.underlying T = some (.struct fs)) (hn : P.cellsOf T = n) (h : OpensF P fs n 0 0 f φ) : Opens P T f φ := by
  intro H enc W fuel cs x hx hw
  obtain ⟨xs, m, rfl, rfl, hl, hxl, hf⟩ := DataW.trod_struct ht hx
  refine h H enc W m cs xs (hl.trans hn) hxl hf fun i fd x hi hxi k hk => hw k ?_
  simp only [DataW.weights, ht]
  refine DataW.weights_mem_each (j := i) (t := fd.type) (d := x.1) ?_ ?_ k hk
  · rw [List.getElem?_map, Array.getElem?_toList, hi]; rfl
  · rw [List.getElem?_map, hxi]; rfl
/-- A parameter that is a struct: one value. -/
theorem rep_struct {C : Cx} {l : List AV} {cs : Array Value} (h : RepL C l cs.toList (fun _ => 0)) : RepL C [.agg l] [.agg cs] (fun _ => 0) := ⟨_, [], _, _, rfl, ⟨cs.toList, by simp, h⟩, ⟨rfl, fun _ => rfl⟩, fun _ => rfl⟩
theorem RepL.join1 {C : Cx} {x : AV} {l : List AV} {u : Value} {us : List Value} (h : RepL C [x] [u] (fun _ => 0)) (h' : RepL C l us (fun _ => 0)) : RepL C (x :: l) (u :: us) (fun _ => 0) := RepL.join [x] l [u] us h h'
end Go.Av
end

section
/- Engine: results under other names. -/
set_option linter.unusedVariables false
set_option autoImplicit false
namespace Go.Av
variable {P : Program}
theorem FunX.ren [Known P] {f : FuncId} {n : Nat} {args : List AV} {hin : Hp} {Q Q' : AV → Hp → Prop} (h : FunX P f n args hin Q)
    (k : ∀ r hout, Q r hout → ∃ (ρ : Ren) (N : Nat) (r' : AV) (hout' : Hp), n ≤ N ∧ leN n ρ ∧ nbl ρ N r' ∧ sub r (ren ρ r') ∧ leH ρ N hout hout' ∧ Q' r' hout') : FunX P f n args hin Q' := by
  refine ⟨h.en, fun B vs hBn hF hFb hargs hh => ?_⟩
  refine (h.call B vs hBn hF hFb hargs hh).mono fun e w' ⟨r, hout, hQ, v, mu', n', F', Fr, Fh, he, hn, hmu, hfin, hsum, hr, ho⟩ => ?_
  obtain ⟨ρ, N, r', hout', hN, hρ, hb, hs, hl, hQ'⟩ := k r hout hQ
  let mu2 : Nat → Hdr := fun o => match lkR ρ o with
    | none => mu' o
    | some none => default
    | some (some x) => mu' x
  have rc : ∀ F2, (∀ b, F2 b ≤ F' b) → RC ρ (cx B w' mu' F' n') (cx B w' mu2 F2 N) := fun F2 hF2 => ⟨⟨fun b hb => ⟨hb.1, by have := hF2 b; have := hb.2.1; omega, hb.2.2⟩, fun _ _ => rfl, Nat.le_refl _, fun _ _ => rfl⟩, rfl, fun o ho => rfl⟩
  obtain ⟨Fh2, k1, k2⟩ := leH_rep (rc F' (fun _ => Nat.le_refl _)) hout' hout Fh hl ho
  let F2 : Foot := fun b => Fr b + Fh2 b
  have hF2 : ∀ b, F2 b ≤ F' b := fun b => by have := hsum b; have := k2 b; simp only [F2]; omega
  have hx : Ext (cx B w' mu2 F' N) (cx B w' mu2 F2 N) := ⟨fun b hb => ⟨hb.1, by have := hF2 b; have := hb.2.1; omega, hb.2.2⟩, fun _ _ => rfl, Nat.le_refl _, fun _ _ => rfl⟩
  refine ⟨r', hout', hQ', v, mu2, N, F2, Fr, Fh2, he, hN, fun o ho => ?_, ⟨hfin.os, hfin.tape, hfin.output, hfin.size, hfin.old, fun b => Nat.le_trans (hF2 b) (hfin.one b), fun b hb => hfin.blk b (by have := hF2 b; omega)⟩, fun b => rfl, ren_rep (rc F2 hF2) r' v Fr hb (sub_rep _ _ _ _ hr hs), RepH.mono hx _ _ k1 (fun _ _ => rfl)⟩
  show mu2 o = B.mu o
  simp only [mu2]
  rw [lkR_leN ρ o hρ ho]
  exact hmu o ho
end Go.Av
end
