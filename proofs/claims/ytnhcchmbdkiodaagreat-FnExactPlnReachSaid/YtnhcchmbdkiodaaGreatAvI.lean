/- Engine, part 9: each operation, one by one. -/
import Derived.Test.YtnhcchmbdkiodaaGreatAvHa
set_option linter.unusedVariables false
set_option linter.unusedSimpArgs false
set_option autoImplicit false
namespace Go.Av
variable {P : Program} [Known P] {B : Base P} {o : Oper} {s : St} {a : Act} {w : World} {K : St → AV → Prop}

def Out (B : Base P) (a : Act) (K : St → AV → Prop) (x : Value) (w : World) : Prop := ∃ s v, K s v ∧ RelV B s a w v x

theorem yields_of {R : Value → World → Prop} {v : Value} {w' : World} (h : (execOp a.eval o).run P w = .ok (.value v) w') (hr : R v w') : Yields P o a w R := by unfold Yields; rw [h]; exact hr
theorem yields_skip {R : Value → World → Prop} {w' : World} (h : (execOp a.eval o).run P w = .ok .skip w') (hr : R undef w') : Yields P o a w R := by unfold Yields; rw [h]; exact hr

theorem y_ev {x : Operand} (hx : okO x = true) (hr : Rel B s a w) (h : K s (s.ev x)) : Out B a K (a.eval x) w := by
  obtain ⟨mu, F, c⟩ := hr
  exact ⟨s, _, h, mu, F, c, c.ev x hx⟩

theorem y_box {t : TypeId} {x : Operand} (e : o.op = .box t x) (hx : okO x = true) (hr : Rel B s a w) (h : stp P (.box t x) s K) : Yields P o a w (Out B a K) := by
  obtain ⟨mu, F, c⟩ := hr
  simp only [stp] at h
  split at h
  · rename_i l hl
    have hv := cells_rep (c.ev x hx) hl
    obtain ⟨hone, h⟩ := h
    obtain ⟨F1, F2, k1, k2, k3⟩ := absC_sound (l.map AV.nb) s.hp F _ (nbL_rep _ _ _ hv) c.hp
    have ho := RepO.single k1 (all_one_rep _ _ _ hv hone)
    rw [absC_length, List.length_map] at ho
    have hlen : (a.eval x).cells.size = l.length := by have := RepL.length _ _ _ hv; simpa using this
    obtain ⟨F', c'⟩ := c.new (t := t) (d := []) (cap := 1) (g := true) ho k2 (fun b => by rw [k3 b]; exact Nat.le_refl _) (by simp) (by simp [lim]) (by simpa using hlen)
    refine yields_of (v := .pointer (some ⟨w.heap.size, 0, none⟩)) (w' := w.alloc (.cells (a.eval x).cells t)) ?_ ?_
    · simp [execOp, e, Instr.box, newVar, newRow]
    · exact ⟨_, _, h, _, F', c', by simp [cx], ⟨w.heap.size, by simp [cx, updMu], by simp⟩, fun _ => rfl⟩
  · exact h.elim

theorem zeroT_run {P : Program} {t : TypeId} {z : List AV} (h : zeroT P t = some z) : ∃ v : Value, (∀ w, (zeroValue t).run P w = .ok v w) ∧ (∀ C : Cx, RepL C z v.cells.toList (fun _ => 0)) ∧ v.cells.size = z.length ∧ ∀ u ∈ v.cells.toList, u.oneCell' = true := by
  unfold zeroT at h
  split at h
  · rename_i i hi
    split at h
    · rename_i v hz
      split at h
      · rename_i l hl
        cases hok : okV 3 v && l.all AV.one with
        | false => rw [hok] at h; simp at h
        | true =>
          rw [hok] at h
          simp only [cond_true, Option.some.injEq] at h
          subst h
          simp only [Bool.and_eq_true] at hok
          have hr0 : ∀ C : Cx, RepL C l v.cells.toList (fun _ => 0) := fun C => cells_rep (C := C) (rep_ofVal 3 v hok.1) hl
          have hr : ∀ C : Cx, RepL C (l.map AV.nb) v.cells.toList (fun _ => 0) := fun C => nbL_rep _ _ _ (hr0 C)
          refine ⟨v, fun w => by simp [zeroValue, typeInfo, hi, hz], hr, ?_, all_one_rep l _ _ (hr0 ⟨default, fun _ => False, fun _ => default, 0⟩) hok.2⟩
          have := RepL.length _ _ _ (hr ⟨default, fun _ => False, fun _ => default, 0⟩)
          simpa using this
      · simp at h
    · simp at h
  · simp at h
theorem y_alloc {t : TypeId} (e : o.op = .alloc t) (hr : Rel B s a w) (h : stp P (.alloc t) s K) : Yields P o a w (Out B a K) := by
  obtain ⟨mu, F, c⟩ := hr
  simp only [stp] at h
  split at h
  · rename_i l hl
    obtain ⟨v, hrun, hv, hlen, hone⟩ := zeroT_run hl
    have ho := RepO.single (hv (cx B w mu F s.nx)) hone
    obtain ⟨F', c'⟩ := c.new (t := t) (d := []) (cap := 1) (g := true) (FR := fun _ => 0) ho c.hp (fun b => by simp) (by simp) (by simp [lim]) (by simpa using hlen)
    refine yields_of (v := .pointer (some ⟨w.heap.size, 0, none⟩)) (w' := w.alloc (.cells v.cells t)) ?_ ?_
    · simp [execOp, e, Instr.alloc, newVar, newRow, hrun]
    · exact ⟨_, _, h, _, F', c', by simp [cx], ⟨w.heap.size, by simp [cx, updMu], by simp⟩, fun _ => rfl⟩
  · exact h.elim

theorem cell_heap {w : World} {b i : Nat} {c : Array Value} {t : TypeId} {fr : Nat × Nat} (h : w.heap[b]? = some (.cells c t fr)) : w.cell? ⟨b, i, none⟩ = c[i]? := by
  simp [World.cell?, h]

/-- What an object of the state is in memory, where it has a row. -/
theorem RepOb.rows {C : Cx} {o : Nat} {ob : Ob} {F : Foot} (h : RepOb C o ob F) (hn : 0 < ob.rows.length) :
    ∃ b c t FR, (C.mu o).b = some b ∧ (C.mu o).len = ob.rows.length ∧ (C.mu o).e = ob.e ∧ ob.rows.length ≤ (C.mu o).cap ∧ ob.rows.length ≤ lim ∧
      C.w.heap[b]? = some (.cells c t (0, 0)) ∧ c.size = (C.mu o).cap * ob.e ∧ RepO (C.sel ob.g) ob.e ob.rows c 0 FR ∧ ∀ x, F x = (if x = b then 1 else 0) + FR x := by
  rcases h.2 with ⟨_, _, _, h4, _⟩ | h
  · rw [h4] at hn; simp at hn
  · exact h
theorem getD_some {l : List (List AV)} {i : Nat} {d : List AV} (h : i < l.length) : l[i]? = some (l.getD i d) := by
  rw [List.getD_eq_getElem?_getD, List.getElem?_eq_getElem h]; rfl

theorem y_load {t : TypeId} {x : Operand} (e : o.op = .load t x) (hx0 : okO x = true) (hr : Rel B s a w) (h : stp P (.load t x) s K) : Yields P o a w (Out B a K) := by
  obtain ⟨mu, F, c⟩ := hr
  simp only [stp] at h
  have hx := c.ev x hx0
  split at h
  · rename_i g n ht
    split at h
    · rename_i l hl
      obtain ⟨h1, h2, h3⟩ := h
      rw [hl] at hx
      obtain ⟨⟨ad, hv, hA⟩, _⟩ := hx
      obtain ⟨us, k1, k2, k3, _⟩ := RepA.vals l ad 0 hA
      replace k1 := RepL.mono (ext_pu _) _ _ _ k1 (fun _ _ => rfl)
      have hlen : (us.take n).length = n := by simp; omega
      have hrun := loadVar_run (P := P) ht (w := w) (ad := ad) (us := us.take n) hlen h2 (fun i u hi => by
        have : i < n := by have := (List.getElem?_eq_some_iff.1 hi).1; omega
        have := k3 i u (by rw [List.getElem?_take] at hi; simpa [this] using hi)
        rwa [Nat.zero_add] at this)
      refine yields_of (w' := w) (v := if g then .agg (us.take n).toArray else (us.take n).headD undef) ?_ ?_
      · simp only [execOp, e, hv, Instr.loadAt, Instr.sureAddr, Sem.run_bind, Sem.run_pure, Result.andThen_ok, hrun]
      · exact ⟨s, _, h3, mu, F, c, packT_rep (RepL.take n l us k1) (by simp; omega)⟩
    · rename_i i_o i off hl
      split at h
      · rename_i ob hob
        obtain ⟨h1, h2, h3, h4⟩ := h
        rw [hl] at hx
        obtain ⟨hlt, ⟨b, hb, hv⟩, _⟩ := hx
        obtain ⟨G1, G2, m1, m2, m4, m3⟩ := RepH.put s.hp F _ ob c.hp hob
        obtain ⟨b', cc, tt, FR, q1, q2, q3, q4, q5, q6, q7, q8, q9⟩ := m1.rows (by omega)
        obtain rfl : b = b' := Option.some.inj (hb.symm.trans q1)
        obtain ⟨r1, F1, F2, r2, r3, r4⟩ := RepO.focus _ 0 FR i _ q8 (getD_some (d := ob.d) h1)
        have e3 : ob.rows.getD i ob.d = (ob.rows.getD i ob.d).take off ++ (((ob.rows.getD i ob.d).drop off).take n ++ ((ob.rows.getD i ob.d).drop off).drop n) := by
          rw [List.take_append_drop, List.take_append_drop]
        rw [e3] at r2
        obtain ⟨A1, A2, a1, a2, a3⟩ := (RepB.append _ _ _ _).1 r2
        obtain ⟨B1, B2, b1, b2, b3⟩ := (RepB.append _ _ _ _).1 a2
        obtain ⟨us, k1, k2, k3, k4⟩ := RepB.to_list _ _ _ b1
        replace k1 := RepL.mono (ext_sel _ _) _ _ _ k1 (fun _ _ => by rw [Cx.sel_w])
        have hmid : (((ob.rows.getD i ob.d).drop off).take n).length = n := by rw [List.length_take, List.length_drop, r1]; omega
        have hlen : us.length = n := by rw [k2, hmid]
        have hoff : ((ob.rows.getD i ob.d).take off).length = off := by rw [List.length_take, r1]; omega
        rw [hoff] at k3
        have hrun := loadVar_run (P := P) ht (w := w) (ad := ⟨b, i * ob.e + off, none⟩) (us := us) hlen h2 (fun j u hj => by
          rw [add_none, cell_heap (show w.heap[b]? = _ from q6)]
          have := k3 j u hj
          rwa [Nat.zero_add] at this)
        rw [q3] at hv
        have hex : (execOp a.eval o).run P w = .ok (.value (if g then .agg us.toArray else us.headD undef)) w := by
          simp only [execOp, e, hv, Instr.loadAt, Instr.sureAddr, Sem.run_bind, Sem.run_pure, Result.andThen_ok, hrun]
        refine yields_of hex ?_
        split at h4
        · rename_i hpu
          have hz : Z B1 := puL_zero _ _ _ k1 hpu
          have k1' := k1.foot (F' := fun _ => 0) (fun b => (hz b).symm)
          exact ⟨s, _, h4, mu, F, c, packT_rep k1' (by rw [← k2]; omega)⟩
        · rename_i hpu
          obtain ⟨hg, htop, hK⟩ := h4
          generalize hrow : ob.rows.getD i ob.d = row at *
          obtain ⟨C', i1, i2⟩ := instC_sound _ (cx B w mu F s.nx) us B1 k1 htop
          have hC : C' = cx B w C'.mu F C'.nx := by
            have h1 := i1.w; have h2 := i1.ok
            cases C'; simp only [cx] at *; rw [h1, h2]
          have hCw : ∀ b : Nat, C'.w.heap[b]? = w.heap[b]? := fun b => by rw [i1.w]; rfl
          have hl' : (instC s.nx ((row.drop off).take n)).1.length = n := by
            have := RepL.length _ _ _ i2
            rw [hlen] at this; exact this.symm
          simp only [Nat.zero_add] at r4 a1 b1 b2
          rw [hoff] at b1 b2
          rw [hmid] at b2
          rw [hg] at a1 b2 r4
          have a1' := a1.mono i1.ext _ _ _ _ (fun b _ => hCw b)
          have b2' := b2.mono i1.ext _ _ _ _ (fun b _ => hCw b)
          have hlen2 : (row.take off ++ (instC s.nx ((row.drop off).take n)).1 ++ row.drop (off + (instC s.nx ((row.drop off).take n)).1.length)).length = ob.e := by
            simp only [List.length_append, List.length_take, List.length_drop, hl', r1]; omega
          have hB : RepB C' (row.take off ++ (instC s.nx ((row.drop off).take n)).1 ++ row.drop (off + (instC s.nx ((row.drop off).take n)).1.length)) cc (i * ob.e) (fun y => A1 y + (0 + B2 y)) := by
            rw [List.append_assoc]
            refine (RepB.append _ _ _ _).2 ⟨A1, fun y => 0 + B2 y, a1', (RepB.append _ _ _ _).2 ⟨fun _ => 0, B2, ?_, ?_, fun _ => rfl⟩, fun _ => rfl⟩
            · rw [hoff]; exact RepB.of_list _ us _ _ (fun j u hj => by have := k3 j u hj; rwa [Nat.zero_add] at this) k4 i2
            · rw [hoff, hl', ← List.drop_drop]; exact b2'
          have hO := r4 C' _ _ _ i1.ext (fun b _ => hCw b) hlen2 hB (fun _ _ => rfl)
          have hmu : C'.mu i_o = mu i_o := i1.mu i_o hlt
          have hh' := m3 C' (setRow ob i off (instC s.nx ((row.drop off).take n)).1) (fun y => (if y = b then 1 else 0) + ((A1 y + (0 + B2 y)) + F2 y))
            ⟨Nat.lt_of_lt_of_le hlt i1.le, .inr ⟨b, cc, tt, fun y => (A1 y + (0 + B2 y)) + F2 y, by rw [hmu]; exact q1, by rw [hmu]; show _ = (ob.rows.set _ _).length; rw [List.length_set]; exact q2, by rw [hmu]; exact q3, by rw [hmu]; show (ob.rows.set _ _).length ≤ _; rw [List.length_set]; exact q4,
              by show (ob.rows.set _ _).length ≤ _; rw [List.length_set]; exact q5, by rw [hCw]; exact q6, by rw [hmu]; exact q7, by
                have hsel : C'.sel (setRow ob i off (instC s.nx ((row.drop off).take n)).1).g = C' := by show C'.sel ob.g = C'; rw [hg]; rfl
                rw [hsel]
                show RepO C' ob.e (ob.rows.set i ((ob.rows.getD i ob.d).take off ++ _ ++ (ob.rows.getD i ob.d).drop _)) cc 0 _
                rw [hrow]; exact hO, fun _ => rfl⟩⟩
            ⟨i1.ext, fun b _ => hCw b⟩
          have happ := RepH.app _ _ _ _ i1.hp hh'
          have hsum : (fun y => B1 y + ((if y = b then 1 else 0) + ((A1 y + (0 + B2 y)) + F2 y) + G2 y)) = F := funext fun y => by
            have := m2 y; have := q9 y; have := r3 y; have := a3 y; have := b3 y
            omega
          rw [hsum] at happ
          have st : Stp w w F F := ⟨rfl, rfl, rfl, Nat.le_refl _, fun _ _ _ => rfl, fun _ _ h => h, c.one, fun b hb => (c.blk b hb).1⟩
          have hC2 : cx B w C'.mu F (instC s.nx ((row.drop off).take n)).2.2 = C' := by rw [hC]; congr 1; exact i1.nx.symm
          refine ⟨_, _, hK, C'.mu, F, c.step (s' := ⟨s.tm, _, _⟩) st (by have := i1.le; rw [i1.nx] at this; exact this) i1.mu rfl ?_, ?_⟩
          · show RepH (cx B w C'.mu F (instC s.nx ((row.drop off).take n)).2.2) _ F
            rw [hC2]; exact happ
          · show Rep (cx B w C'.mu F (instC s.nx ((row.drop off).take n)).2.2) _ _ _
            rw [hC2]; exact packT_rep i2 (by rw [hl']; exact h2)
      · exact h.elim
    · exact h.elim
  · exact h.elim

theorem y_store {t : TypeId} {p x : Operand} (e : o.op = .store t p x) (hp0 : okO p = true) (hx0 : okO x = true) (hr : Rel B s a w) (h : stp P (.store t p x) s K) : Yields P o a w (Out B a K) := by
  obtain ⟨mu, F, c⟩ := hr
  simp only [stp] at h
  have hx := c.ev p hp0
  split at h
  · rename_i g n l i_o i off ht hl hp
    split at h
    · rename_i ob hob
      obtain ⟨h1, h2, h3, hnp, h4, h5⟩ := h
      rw [hp] at hx
      obtain ⟨_, ⟨b, hb, hv⟩, _⟩ := hx
      have hvs0 := cells_rep (c.ev x hx0) hl
      have hvs := nbL_rep _ _ _ hvs0
      obtain ⟨Fl, Fh, k1, k2, k3⟩ := absC_sound (l.map AV.nb) s.hp F _ hvs c.hp
      have hlen : (a.eval x).cells.toList.length = n := by rw [RepL.length _ _ _ hvs, List.length_map]; exact h2
      obtain ⟨G1, G2, m1, m2, m4, m3⟩ := RepH.put _ Fh i_o ob k2 hob
      obtain ⟨b', cc, tt, FR, q1, q2, q3, q4, q5, q6, q7, q8, q9⟩ := m1.rows (by omega)
      obtain rfl : b = b' := Option.some.inj (hb.symm.trans q1)
      obtain ⟨r1, F1, F2, r2, r3, r4⟩ := RepO.focus _ 0 FR i _ q8 (getD_some (d := ob.d) h1)
      rw [setAll_eq r1] at h5
      generalize hrow : ob.rows.getD i ob.d = row at *
      have e3 : row = row.take off ++ ((row.drop off).take n ++ row.drop (off + n)) := by
        rw [← List.drop_drop, List.take_append_drop, List.take_append_drop]
      have hoff : (row.take off).length = off := by rw [List.length_take, r1]; omega
      have hmid : ((row.drop off).take n).length = n := by rw [List.length_take, List.length_drop, r1]; omega
      rw [e3] at r2
      obtain ⟨A1, A2, a1, a2, a3⟩ := (RepB.append _ _ _ _).1 r2
      obtain ⟨B1, B2, b1, b2, b3⟩ := (RepB.append _ _ _ _).1 a2
      rw [hoff] at a2 b1 b2
      rw [hmid] at b2
      generalize hus : (a.eval x).cells.toList = vs at *
      have hsz : i * ob.e + off + vs.length ≤ cc.size := by
        rw [hlen, q7]
        have : (i + 1) * ob.e ≤ ((cx B w mu F s.nx).mu i_o).cap * ob.e := Nat.mul_le_mul_right _ (by omega)
        rw [Nat.add_mul, Nat.one_mul] at this
        omega
      have hone := all_one_rep l vs _ hvs0 h3
      simp only [Nat.zero_add] at r4 a1 b1 b2
      have hl' : (absC s.hp (l.map AV.nb)).1.length = n := by rw [absC_length, List.length_map]; exact h2
      have hrow' : RepB ((cx B w mu F s.nx).sel ob.g) (row.take off ++ (absC s.hp (l.map AV.nb)).1 ++ row.drop (off + (absC s.hp (l.map AV.nb)).1.length)) (wr cc (i * ob.e + off) vs) (i * ob.e) (fun y => A1 y + (Fl y + B2 y)) := by
        rw [List.append_assoc]
        refine (RepB.append _ _ _ _).2 ⟨A1, fun y => Fl y + B2 y, RepB.congr _ _ _ (fun j h6 h7 => wr_out _ _ _ _ (by rw [hoff] at h7; omega)) a1, (RepB.append _ _ _ _).2 ⟨Fl, B2, ?_, ?_, fun _ => rfl⟩, fun _ => rfl⟩
        · rw [hoff]
          exact RepB.of_list _ vs _ _ (fun j u hj => wr_in _ _ _ _ _ hsz hj) hone (npL_sel _ k1 hnp)
        · rw [hoff, hl']
          exact RepB.congr _ _ _ (fun j h6 h7 => wr_out _ _ _ _ (by rw [hlen]; omega)) b2
      have hlen' : (row.take off ++ (absC s.hp (l.map AV.nb)).1 ++ row.drop (off + (absC s.hp (l.map AV.nb)).1.length)).length = ob.e := by
        simp only [List.length_append, List.length_take, List.length_drop, hl', r1]; omega
      have hO := r4 _ _ _ _ (Ext.refl _) (fun _ _ => rfl) hlen' hrow' (fun j h6 => wr_out _ _ _ _ (by rw [hlen]; omega))
      let F' : Foot := fun y => ((if y = b then 1 else 0) + ((A1 y + (Fl y + B2 y)) + F2 y)) + G2 y
      have hF : ∀ y, F y = F' y + B1 y := fun y => by
        have := k3 y; have := m2 y; have := q9 y; have := r3 y; have := a3 y; have := b3 y
        simp only [F']; omega
      have hFb : F b ≠ 0 := by have := hF b; simp [F'] at this; omega
      have st : Stp w (w.setCells b (i * ob.e + off) vs) F F' := stp_write b _ vs hFb (fun y => by have := hF y; omega) c.one (fun y hy => (c.blk y hy).1)
      have hm : ∀ o, o < s.nx → mu o = mu o := fun _ _ => rfl
      have hx' := st.ext (B := B) (mu := mu) (mu' := mu) (n := s.nx) (n' := s.nx) (Nat.le_refl _) hm
      have hoth : ∀ y, y ≠ b → (w.setCells b (i * ob.e + off) vs).heap[y]? = w.heap[y]? := fun y hy => setCells_other _ _ _ _ _ hy
      have hbone : ∀ y, (A1 y + (Fl y + B2 y)) + F2 y + G2 y ≠ 0 → y ≠ b := fun y hy e => by
        subst e
        have h8 := c.one y; have := hF y; simp [F'] at this; omega
      have hh' := m3 (cx B (w.setCells b (i * ob.e + off) vs) mu F' s.nx) (setRow ob i off (absC s.hp (l.map AV.nb)).1) (fun y => (if y = b then 1 else 0) + ((A1 y + (Fl y + B2 y)) + F2 y))
        ⟨m1.1, .inr ⟨b, wr cc (i * ob.e + off) vs, tt, _, q1, by show _ = (ob.rows.set _ _).length; rw [List.length_set]; exact q2, q3, by show (ob.rows.set _ _).length ≤ _; rw [List.length_set]; exact q4, by show (ob.rows.set _ _).length ≤ _; rw [List.length_set]; exact q5, setCells_heap _ _ _ _ _ _ _ q6,
          by rw [wr_size]; exact q7, by
            have := hO.mono (hx'.sel _) _ _ _ _ _ (fun y hy => by rw [Cx.sel_w, Cx.sel_w]; exact hoth y (hbone y (by omega)))
            rw [← hrow] at this
            exact this, fun _ => rfl⟩⟩
        ⟨hx', fun y hy => hoth y (hbone y (by omega))⟩
      have c' := c.step (s' := ⟨s.tm, seth (absC s.hp (l.map AV.nb)).2 i_o (setRow ob i off (absC s.hp (l.map AV.nb)).1), s.nx⟩) st (Nat.le_refl _) hm rfl hh'
      refine yields_skip (w' := w.setCells b (i * ob.e + off) vs) ?_ ⟨_, _, h5, mu, F', c', fun _ => rfl⟩
      rw [q3] at hv
      have hsize : (a.eval x).cells.size = n := by rw [← hlen, ← hus]; simp
      have hst := storeCells_run (P := P) (w := w) (b := b) (o := i * ob.e + off) (vs := vs) q6 hsz hone
      simp only [execOp, e, hv, Instr.storeAt, Instr.sureAddr, storeVar, Sem.run_bind, Sem.run_pure, Result.andThen_ok, (tyT_run ht w).2, hsize, ne_eq, not_true_eq_false, if_false, hus, Sem.run_ite, hst]
    · exact h.elim
  · exact h.elim
end Go.Av
