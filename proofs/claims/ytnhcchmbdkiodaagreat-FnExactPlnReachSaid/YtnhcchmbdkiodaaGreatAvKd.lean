/- Engine, part 11d: cutting, copying; structs and slices written out. -/
import Derived.Test.YtnhcchmbdkiodaaGreatAvKc
set_option linter.unusedVariables false
set_option linter.unusedSimpArgs false
set_option autoImplicit false
namespace Go.Av
variable {P : Program} [Known P] {B : Base P} {o : Oper} {s : St} {a : Act} {w : World} {K : St → AV → Prop}

/-! ### Cutting -/
theorem RepO.chunk {C : Cx} {c : Array Value} : ∀ (l : List AV) (off : Nat) (F : Foot), RepB C l c off F → RepO C 1 (l.map fun x => [x]) c off F
  | [], off, F, h => h
  | x :: l, off, F, h => by
    obtain ⟨u, F1, F2, h1, h2, h3, h4, h5⟩ := h
    exact ⟨F1, F2, rfl, ⟨u, F1, fun _ => 0, h1, h2, h3, fun _ => rfl, fun _ => rfl⟩, RepO.chunk l (off + 1) F2 h4, h5⟩
theorem rdR_len1 : ∀ l : List AV, (rdR (l.map fun c => [c])).length = l.length
  | [] => rfl
  | _ :: l => by simp only [List.map_cons, rdR, List.length_cons, rdR_len1 l]
theorem bnd_run {lo hi : Option Operand} {n : Nat} {mu : Nat → Hdr} {F : Foot} {K' : Nat → Nat → Prop} (c : Core B s a w mu F) (hl0 : ∀ x, lo = some x → okO x = true) (hh0 : ∀ x, hi = some x → okO x = true) (h : bndW s lo hi n K') :
    ∃ l h, l ≤ h ∧ h ≤ n ∧ K' l h ∧ ∀ isS cap, n ≤ cap → (Instr.sliceBounds isS n cap (lo.map a.eval) (hi.map a.eval) none).run P w = .ok (l, h, cap) w := by
  unfold bndW at h
  split at h
  · exact ⟨0, n, Nat.zero_le _, Nat.le_refl _, h, fun isS cap hc => by simp [Instr.sliceBounds]⟩
  · rename_i x
    have hx := c.ev x (hl0 x rfl)
    split at h
    · rename_i k l hv
      rw [hv] at hx
      obtain ⟨h1, h2, h3⟩ := h
      exact ⟨l.toNat, n, by omega, Nat.le_refl _, h3, fun isS cap hc => by simp [Instr.sliceBounds, Instr.sliceBound, hx.1, asIntOf, h1, h2]⟩
    · exact h.elim
  · rename_i x
    have hx := c.ev x (hh0 x rfl)
    split at h
    · rename_i k l hv
      rw [hv] at hx
      obtain ⟨h1, h2, h3⟩ := h
      exact ⟨0, l.toNat, Nat.zero_le _, by omega, h3, fun isS cap hc => by
        have : l ≤ cap := by omega
        simp [Instr.sliceBounds, Instr.sliceBound, hx.1, asIntOf, h1, this]⟩
    · exact h.elim
  · rename_i x y
    have hx := c.ev x (hl0 x rfl)
    have hy := c.ev y (hh0 y rfl)
    split at h
    · rename_i k l k' m hv hv'
      rw [hv] at hx
      rw [hv'] at hy
      obtain ⟨h1, h2, h3, h4⟩ := h
      exact ⟨l.toNat, m.toNat, by omega, by omega, h4, fun isS cap hc => by
        have e1 : m ≤ cap := by omega
        have e2 : 0 ≤ m := by omega
        have e3 : l ≤ max m 0 := by omega
        simp [Instr.sliceBounds, Instr.sliceBound, hx.1, hy.1, asIntOf, h1, e1, e2, e3]⟩
    · exact h.elim
theorem RepR.take {C : Cx} {e : Nat} : ∀ (k : Nat) (l : List (List AV)) (a : Option Addr) (i : Nat), RepR C e l a i → RepR C e (l.take k) a i
  | 0, l, a, i, h => by simp [RepR]
  | k + 1, [], a, i, h => by simp [RepR]
  | k + 1, r :: l, a, i, h => ⟨h.1, RepR.take k l a (i + 1) h.2⟩
theorem RepR.drop {C : Cx} {e : Nat} : ∀ (k : Nat) (l : List (List AV)) (a : Option Addr) (i : Nat), RepR C e l a i → RepR C e (l.drop k) a (i + k)
  | 0, l, a, i, h => h
  | k + 1, [], a, i, h => by simp [RepR]
  | k + 1, r :: l, a, i, h => by rw [List.drop_succ_cons, show i + (k + 1) = i + 1 + k by omega]; exact RepR.drop k l a (i + 1) h.2
theorem RepR.shift {C : Cx} {e : Nat} : ∀ (l : List (List AV)) (a : Option Addr) (k i : Nat), RepR C e l a (k + i) → RepR C e l (a.map (·.add (k * e))) i
  | [], a, k, i, h => trivial
  | r :: l, a, k, i, h => by
    obtain ⟨⟨ad, h1, h2, h3⟩, h4⟩ := h
    subst h1
    exact ⟨⟨_, rfl, h2, (RepA.shift _ ad (k * e) (i * e)).1 (by rw [← Nat.add_mul]; exact h3)⟩, RepR.shift l (some ad) k (i + 1) h4⟩
theorem cut_sl {C : Cx} {e : Nat} {rows : List (List AV)} {d : List AV} {A : Option Addr} {cap l h : Nat} (h1 : l ≤ h) (h2 : h ≤ rows.length) (hc : rows.length ≤ cap) (hl : rows.length ≤ lim) (hR : RepR C.pu e rows A 0) :
    Rep C (.sl e ((rows.take h).drop l) d) (.slice (if cap = l then A else A.map (·.add (l * e))) (h - l) (cap - l)) (fun _ => 0) := by
  have hlen : ((rows.take h).drop l).length = h - l := by rw [List.length_drop, List.length_take]; omega
  refine ⟨⟨_, _, by rw [hlen], by rw [hlen]; omega, by rw [hlen]; omega, ?_⟩, fun _ => rfl⟩
  have h3 := RepR.drop l _ _ _ (RepR.take h _ _ _ hR)
  by_cases hcl : cap = l
  · have : (rows.take h).drop l = [] := List.eq_nil_of_length_eq_zero (by omega)
    rw [this]; trivial
  · rw [if_neg hcl]
    exact RepR.shift _ _ l 0 (by rw [Nat.add_zero]; rwa [Nat.zero_add] at h3)
theorem y_slice {t : TypeId} {x : Operand} {lo hi : Option Operand} (e : o.op = .slice t x lo hi none) (hx0 : okO x = true) (hl0 : ∀ y, lo = some y → okO y = true) (hh0 : ∀ y, hi = some y → okO y = true) (hr : Rel B s a w) (h : stp P (.slice t x lo hi none) s K) : Yields P o a w (Out B a K) := by
  obtain ⟨mu, F, c⟩ := hr
  simp only [stp] at h
  have hx := c.ev x hx0
  split at h
  · rename_i b hk hv
    rw [hv] at hx
    have hu := lkT_str hk
    obtain ⟨l, m, h1, h2, hK, hrun⟩ := bnd_run (P := P) c hl0 hh0 h
    have hr1 := hrun false b.size (Nat.le_refl _)
    refine y_val (v := .str (b.extract l m)) (x := .string (b.extract l m)) ?_ c ⟨rfl, by have := hx.2.1; rw [ByteArray.size_extract]; omega, fun _ => rfl⟩ hK
    simp only [execOp, e, hx.1, Option.map_none, Instr.sliceAt, Instr.slice, underlying, Sem.run_bind, run_program, Result.andThen_ok, hu, Sem.run_pure, Option.isSome_none, Bool.false_eq_true, if_false, hr1, Sem.run_ite]
  · rename_i sz rows d hk hv
    rw [hv] at hx
    split at h
    · rename_i g e' by_ he
      obtain ⟨rfl, h⟩ := h
      obtain ⟨⟨A, cap, hxv, k1, k2, k3⟩, _⟩ := hx
      obtain ⟨el, hu, ht, _, _⟩ := elT_slice he
      obtain ⟨l, m, h1, h2, hK, hrun⟩ := bnd_run (P := P) c hl0 hh0 h
      have hr1 := hrun true cap k1
      refine y_val (x := .slice (if cap = l then A else A.map (·.add (l * sz))) (m - l) (cap - l)) ?_ c (cut_sl h1 h2 k1 k2 k3) hK
      simp only [execOp, e, hxv, Option.map_none, Instr.sliceAt, Instr.slice, underlying, Sem.run_bind, run_program, Result.andThen_ok, hu, Sem.run_pure, hr1, (tyT_run ht w).2]
    · exact h.elim
  · rename_i i_o hk hv
    rw [hv] at hx
    split at h
    · rename_i g e' by_ ob he hob
      obtain ⟨hoe, hg, h⟩ := h
      obtain ⟨el, hu, ht, _, _⟩ := elT_slice he
      obtain ⟨l, m, h1, h2, hK, hrun⟩ := bnd_run (P := P) c hl0 hh0 h
      obtain ⟨G1, G2, m1, m2, m3⟩ := c.hp.at_ hob
      have hown := own_of hg m1 hx
      have st : Stp w w F G2 := ⟨rfl, rfl, rfl, Nat.le_refl _, fun _ _ _ => rfl, fun b _ h => by have := m3 b; omega, fun b => by have := m3 b; have := c.one b; omega, fun b hb => (c.blk b (by have := m3 b; omega)).1⟩
      have hx' := st.ext (B := B) (mu := mu) (mu' := mu) (n := s.nx) (n' := s.nx) (Nat.le_refl _) (fun _ _ => rfl)
      have c' := c.step (s' := ⟨s.tm, remh s.hp i_o, s.nx⟩) st (Nat.le_refl _) (fun _ _ => rfl) rfl (RepH.mono hx' _ _ m2 (fun _ _ => rfl))
      have hrd := rd_rep (C := cx B w mu F s.nx) (w := w) (ok := (cx B w mu G2 s.nx).ok) rfl hx'.ok (.own ob.e ob.rows ob.d) (a.eval x) G1 hown (fun b hb => by
        refine ⟨(c.blk b (by have := m3 b; omega)).1, ?_, ?_⟩
        · have := m3 b; have := c.one b; omega
        · rcases (c.blk b (by have := m3 b; omega)).2 with h | h
          · exact .inr (.inl h)
          · exact .inr (.inr h))
      obtain ⟨⟨A, cap, hxv, k1, k2, k3⟩, _⟩ := hrd
      have hlen : (rdR ob.rows).length = ob.rows.length := rdR_length _
      rw [hlen] at hxv
      have hr1 := hrun true cap (by omega)
      refine yields_of (v := .slice (if cap = l then A else A.map (·.add (l * ob.e))) (m - l) (cap - l)) (w' := w) ?_ ⟨_, _, hK, mu, G2, c', cut_sl (C := cx B w mu G2 s.nx) h1 (by omega) k1 k2 k3⟩
      simp only [execOp, e, hxv, Option.map_none, Instr.sliceAt, Instr.slice, underlying, Sem.run_bind, run_program, Result.andThen_ok, hu, Sem.run_pure, hr1, (tyT_run ht w).2, hoe]
    · exact h.elim
  · rename_i i_o hk hv
    rw [hv] at hx
    split at h
    · rename_i n e' row d' he hob
      obtain ⟨rfl, hnp, hlim, h⟩ := h
      obtain ⟨el, hu, ht⟩ := arT_spec he
      obtain ⟨l, m, h1, h2, hK, hrun⟩ := bnd_run (P := P) c hl0 hh0 h
      obtain ⟨G1, G2, m1, m2, m3⟩ := c.hp.at_ hob
      obtain ⟨_, ⟨b, hb, hxv⟩, _⟩ := hx
      have st : Stp w w F G2 := ⟨rfl, rfl, rfl, Nat.le_refl _, fun _ _ _ => rfl, fun b _ h => by have := m3 b; omega, fun b => by have := m3 b; have := c.one b; omega, fun b hb => (c.blk b (by have := m3 b; omega)).1⟩
      have hx' := st.ext (B := B) (mu := mu) (mu' := mu) (n := s.nx) (n' := s.nx) (Nat.le_refl _) (fun _ _ => rfl)
      have c' := c.step (s' := ⟨s.tm, remh s.hp i_o, s.nx⟩) st (Nat.le_refl _) (fun _ _ => rfl) rfl (RepH.mono hx' _ _ m2 (fun _ _ => rfl))
      obtain ⟨_, ⟨k1, _, _, k4, _⟩ | ⟨b', cc, tt, FR, k1, k2, k3, k4, k5, k6, k7, k8, k9⟩⟩ := m1
      · cases k4
      · obtain rfl : b = b' := Option.some.inj (hb.symm.trans k1)
        obtain ⟨F1, F2, q1, q2, q3, q4⟩ := k8
        obtain ⟨vs, r1, r2, r3, r4⟩ := RepB.to_list _ _ _ q2
        have r1' := npL_sel false r1 (by simpa using hnp)
        have q2' : RepB (cx B w mu F s.nx).pu row cc 0 F1 := RepB.of_list _ _ _ _ r3 r4 r1'
        have hown : Rep (cx B w mu F s.nx).pu (.own 1 (row.map fun c => [c]) []) (.slice (some ⟨b, 0, none⟩) row.length cc.size) G1 := by
          refine .inr ⟨b, cc.size, cc, tt, F1, by rw [List.length_map], ?_, by rw [List.length_map, q1]; exact hlim, k6, by rw [Nat.mul_one], RepO.chunk _ _ _ q2', fun x => ?_⟩
          · rw [List.length_map, k7, q1]
            exact Nat.le_mul_of_pos_left _ k4
          · have := k9 x
            have := q4 x
            have := q3 x
            omega
        have hrd := rd_rep (C := cx B w mu F s.nx) (w := w) (ok := (cx B w mu G2 s.nx).ok) rfl hx'.ok _ _ G1 hown (fun b hb => by
          refine ⟨(c.blk b (by have := m3 b; omega)).1, ?_, ?_⟩
          · have := m3 b; have := c.one b; omega
          · rcases (c.blk b (by have := m3 b; omega)).2 with h | h
            · exact .inr (.inl h)
            · exact .inr (.inr h))
        obtain ⟨⟨A, cap, hxs, j1, j2, j3⟩, _⟩ := hrd
        have hA : A = some ⟨b, 0, none⟩ := by injection hxs with h _ _; exact h.symm
        subst hA
        have hlen : (rdR (row.map fun c => [c])).length = row.length := rdR_len1 row
        have hr1 := hrun false e' (Nat.le_refl _)
        have ecut : (if e' = l then some (⟨b, 0, none⟩ : Addr) else (some (⟨b, 0, none⟩ : Addr)).map (·.add (l * 1))) = some (if e' = l then ⟨b, 0, none⟩ else Addr.add ⟨b, 0, none⟩ (l * 1)) := by split <;> rfl
        refine yields_of (v := .slice (some (if e' = l then ⟨b, 0, none⟩ else Addr.add ⟨b, 0, none⟩ (l * 1))) (m - l) (e' - l)) (w' := w) ?_ ⟨_, _, hK, mu, G2, c', ecut ▸ cut_sl (C := cx B w mu G2 s.nx) h1 (by rw [hlen, q1]; exact h2) (by rw [hlen, q1]; exact Nat.le_refl _) j2 j3⟩
        simp only [execOp, e, hxv, Option.map_none, Instr.sliceAt, Instr.sureAddr, underlying, Sem.run_bind, run_program, Result.andThen_ok, hu, Sem.run_pure, hr1, (tyT_run ht w).2, Nat.zero_mul, Nat.add_zero]
    · exact h.elim
  · exact h.elim

/-! ### Copying -/
theorem RowV.take {C : Cx} {e : Nat} : ∀ (k : Nat) (rows : List (List AV)) (us : List Value) (F : Foot), RowV C e rows us F → ∃ F', RowV C e (rows.take k) (us.take (k * e)) F' ∧ ∀ b, F' b ≤ F b := by
  intro k rows us F h
  have hput := h.put us.toArray 0 (fun j u hj => by rw [Nat.zero_add]; simpa using hj)
  rw [← List.take_append_drop k rows] at hput
  obtain ⟨F1, F2, h1, h2, h3⟩ := (RepO.append _ _ _ _).1 hput
  obtain ⟨vs, k1, k2⟩ := RepO.rowV _ _ _ h1
  have hlen : (us.take (k * e)).length = (rows.take k).length * e := by
    rw [List.length_take, h.len, List.length_take, ← Nat.mul_min_mul_right]
  have hvs : vs = us.take (k * e) := by
    apply List.ext_getElem?
    intro j
    by_cases hj : j < vs.length
    · have := k2 j vs[j] (List.getElem?_eq_getElem hj)
      rw [List.getElem?_eq_getElem hj, List.getElem?_take, if_pos (by rw [k1.len, List.length_take] at hj; have := Nat.mul_le_mul_right e (Nat.min_le_left k rows.length); omega)]
      rw [Nat.zero_add] at this
      simpa using this.symm
    · rw [List.getElem?_eq_none (by omega), List.getElem?_eq_none (by rw [hlen, ← k1.len]; omega)]
  exact ⟨F1, hvs ▸ k1, fun b => by have := h3 b; omega⟩
theorem y_copy {cl : Call} (e : o.op = .call cl) (hcal : cl.callee = .builtin .copy) (hargs0 : cl.args.toList.all okO = true) (hr : Rel B s a w) (h : stp P (.call cl) s K) : Yields P o a w (Out B a K) := by
  obtain ⟨mu, F, c⟩ := hr
  simp only [stp, hcal] at h
  split at h
  · rename_i x y t t' hargs hty
    have ha : cl.args = #[x, y] := by rw [← Array.toList_inj]; exact hargs
    have hT : cl.argTypes = #[t, t'] := by rw [← Array.toList_inj]; exact hty
    rw [hargs] at hargs0
    simp only [List.all_cons, List.all_nil, Bool.and_true, Bool.and_eq_true] at hargs0
    have hx := c.ev x hargs0.1
    split at h
    · rename_i g sz by_ i_o he hv
      rw [hv] at hx
      obtain ⟨el, hu, ht, _, hne⟩ := elT_slice he
      split at h
      · rename_i ob hob
        obtain ⟨hoe, hg, h⟩ := h
        obtain ⟨rows, h', us, Fs, Fh, hK, hlim, hrv, hh, hF, hlen, hfirst⟩ := src_sound (P := P) c hargs0.2 c.hp h
        obtain ⟨hob', hK⟩ := hK
        obtain ⟨hlt, hxv, _⟩ := hx
        obtain ⟨G1, G2, m1, m2, m4, m3⟩ := RepH.put h' Fh i_o ob hh hob'
        have hmin : Nat.min rows.length ob.rows.length = min rows.length ob.rows.length := rfl
        have hwr : IntKind.i64.wrap ((min rows.length ob.rows.length : Nat) : Int) = ((min rows.length ob.rows.length : Nat) : Int) := wrap_i64 (by unfold In64; unfold lim at hlim; omega)
        rcases m1.2 with ⟨q1, q2, q3, q4, q5⟩ | ⟨b, cc, bt, FR, q1, q2, q3, q4, q5, q6, q7, q8, q9⟩
        · have hxv' : a.eval x = .slice none 0 0 := by rw [hxv, q1, q2, q3]; rfl
          have st : Stp w w F (fun b => G1 b + G2 b) := ⟨rfl, rfl, rfl, Nat.le_refl _, fun _ _ _ => rfl, fun b _ h => by have := m2 b; have := hF b; show G1 b + G2 b = 0; omega, fun b => by have := m2 b; have := hF b; have := c.one b; show G1 b + G2 b ≤ 1; omega, fun b hb => (c.blk b (by have := m2 b; have := hF b; have h2 : G1 b + G2 b ≠ 0 := hb; omega)).1⟩
          have hx' := st.ext (B := B) (mu := mu) (mu' := mu) (n := s.nx) (n' := s.nx) (Nat.le_refl _) (fun _ _ => rfl)
          have hh' := m3 (cx B w mu (fun b => G1 b + G2 b) s.nx) ⟨ob.e, rows.take ob.rows.length ++ ob.rows.drop rows.length, ob.d, false⟩ G1 ⟨hlt, .inl ⟨q1, q2, q3, by rw [q4]; simp, q5⟩⟩ ⟨hx', fun _ _ => rfl⟩
          refine yields_of (v := .int .i64 (min rows.length ob.rows.length : Nat)) (w' := w) ?_ ⟨_, _, hK, mu, _, c.step (s' := ⟨s.tm, _, s.nx⟩) st (Nat.le_refl _) (fun _ _ => rfl) rfl hh', rep_int hwr⟩
          simp only [execOp, e, resolve, hcal, ha, hT, invoke, builtin, Builtin.copy_, Sem.run_bind, Sem.run_pure, Result.andThen_ok, List.map_toArray, List.map_cons, List.map_nil, hxv']
          simp [run_underlying hu, hlen, (tyT_run ht w).2, hfirst w 0 rfl (Nat.zero_le _), goInt, q4]
        · rw [hg] at q8
          rw [hoe] at q3 q7 q8
          have hxv' : a.eval x = .slice (some ⟨b, 0, none⟩) ob.rows.length (mu i_o).cap := by rw [hxv, q1, q2]; rfl
          obtain ⟨olds, o1, o2⟩ := RepO.rowV _ _ _ q8
          obtain ⟨Ft, t1, t2⟩ := RowV.take ob.rows.length _ _ _ hrv
          -- what stays of the old rows
          rw [← List.take_append_drop rows.length ob.rows] at q8
          obtain ⟨D1, D2, d1, d2, d3⟩ := (RepO.append _ _ _ _).1 q8
          let m := min rows.length ob.rows.length
          let vs := us.take (m * sz)
          have hvl : vs.length = m * sz := take_len hrv.len (Nat.min_le_left _ _)
          have hfit : 0 + vs.length ≤ cc.size := by
            rw [Nat.zero_add, hvl, q7]; exact Nat.mul_le_mul_right _ (Nat.le_trans (Nat.min_le_right _ _) q4)
          have hone : ∀ u ∈ vs, u.oneCell' = true := fun u hu => hrv.one u (List.mem_of_mem_take hu)
          have hst := storeCells_run (P := P) (w := w) (b := b) (o := 0) (vs := vs) q6 hfit hone
          let F' : Foot := fun y => ((if y = b then 1 else 0) + (Ft y + D2 y)) + G2 y
          have hF' : ∀ y, F' y ≤ F y := fun y => by have := m2 y; have := hF y; have := q9 y; have := t2 y; have := d3 y; simp only [F']; omega
          have hFb : F b ≠ 0 := by have := hF' b; simp [F'] at this; omega
          have st : Stp w (w.setCells b 0 vs) F F' := stp_write b _ vs hFb hF' c.one (fun y hy => (c.blk y hy).1)
          have hx' := st.ext (B := B) (mu := mu) (mu' := mu) (n := s.nx) (n' := s.nx) (Nat.le_refl _) (fun _ _ => rfl)
          have hoth : ∀ y, y ≠ b → (w.setCells b 0 vs).heap[y]? = w.heap[y]? := fun y hy => setCells_other _ _ _ _ _ hy
          have hbone : ∀ y, Ft y + D2 y + G2 y ≠ 0 → y ≠ b := fun y hy e => by
            subst e
            have h8 := c.one y; have := hF' y; simp [F'] at this; omega
          have hnew : RepO (cx B (w.setCells b 0 vs) mu F' s.nx).pu sz (rows.take ob.rows.length ++ ob.rows.drop rows.length) (wr cc 0 vs) 0 (fun y => Ft y + D2 y) := by
            refine (RepO.append _ _ _ _).2 ⟨Ft, D2, ?_, ?_, fun _ => rfl⟩
            · refine (t1.mono hx'.pu (fun y hy => hoth y (hbone y (by omega)))).put _ 0 (fun j u hj => ?_)
              have hjl : j < m * sz := by
                have := (List.getElem?_eq_some_iff.1 hj).1
                rw [List.length_take, hrv.len] at this
                have h5 : m * sz = min (ob.rows.length * sz) (rows.length * sz) := by rw [Nat.mul_min_mul_right, Nat.min_comm]
                omega
              exact wr_in vs cc 0 j u hfit (by
                show (us.take (m * sz))[j]? = some u
                rw [List.getElem?_take, if_pos hjl]; exact take_get hj)
            · have hlen1 : (rows.take ob.rows.length).length = m := by rw [List.length_take]; exact Nat.min_comm _ _
              rw [hlen1]
              have hlen2 : (ob.rows.take rows.length).length = m := by rw [List.length_take]
              rw [hlen2] at d2
              refine (RepO.congr _ _ _ (fun j hj1 hj2 => ?_) d2).mono hx'.pu _ _ _ _ _ (fun y hy => hoth y (hbone y (by omega)))
              exact wr_out _ _ _ _ (by rw [hvl]; omega)
          have hh' := m3 (cx B (w.setCells b 0 vs) mu F' s.nx) ⟨ob.e, rows.take ob.rows.length ++ ob.rows.drop rows.length, ob.d, false⟩ (fun y => (if y = b then 1 else 0) + (Ft y + D2 y))
            ⟨hlt, .inr ⟨b, wr cc 0 vs, bt, _, q1, by
                have : (rows.take ob.rows.length ++ ob.rows.drop rows.length).length = ob.rows.length := by rw [List.length_append, List.length_take, List.length_drop]; omega
                rw [this]; exact q2, by rw [hoe]; exact q3, by
                have : (rows.take ob.rows.length ++ ob.rows.drop rows.length).length = ob.rows.length := by rw [List.length_append, List.length_take, List.length_drop]; omega
                rw [this]; exact q4, by
                have : (rows.take ob.rows.length ++ ob.rows.drop rows.length).length = ob.rows.length := by rw [List.length_append, List.length_take, List.length_drop]; omega
                rw [this]; exact q5, setCells_heap _ _ _ _ _ _ _ q6, by rw [wr_size, hoe]; exact q7, by rw [hoe]; exact hnew, fun _ => rfl⟩⟩
            ⟨hx', fun y hy => hoth y (hbone y (by omega))⟩
          refine yields_of (v := .int .i64 (min rows.length ob.rows.length : Nat)) (w' := w.setCells b 0 vs) ?_ ⟨_, _, hK, mu, F', c.step (s' := ⟨s.tm, _, s.nx⟩) st (Nat.le_refl _) (fun _ _ => rfl) rfl hh', rep_int hwr⟩
          simp only [execOp, e, resolve, hcal, ha, hT, invoke, builtin, Builtin.copy_, Sem.run_bind, Sem.run_pure, Result.andThen_ok, List.map_toArray, List.map_cons, List.map_nil, hxv']
          simp only [show (#[Value.slice (some ⟨b, 0, none⟩) ob.rows.length (mu i_o).cap, a.eval y] : Array Value)[0]? = some (.slice (some ⟨b, 0, none⟩) ob.rows.length (mu i_o).cap) from rfl, show (#[Value.slice (some ⟨b, 0, none⟩) ob.rows.length (mu i_o).cap, a.eval y] : Array Value)[1]? = some (a.eval y) from rfl, show (#[t, t'] : Array TypeId)[0]? = some t from rfl, run_underlying hu, Sem.run_bind, Result.andThen_ok, hlen, (tyT_run ht w).2, hfirst w (Nat.min rows.length ob.rows.length) rfl (Nat.min_le_left _ _), hmin]
          have hst' : (storeCells ⟨b, 0, none⟩ (us.take (min rows.length ob.rows.length * sz)).toArray.toList).run P w = .ok () (w.setCells b 0 vs) := hst
          simp only [hst', Result.andThen_ok, Sem.run_pure, goInt]
      · exact h.elim
    · exact h.elim
  · exact h.elim

/-! ### Written out -/
theorem foldl_wr (off : Nat) : ∀ (l : List Value) (k : Nat) (c : Array Value), (l.zipIdx k).foldl (fun cs p => cs.setIfInBounds (off + p.2) p.1) c = wr c (off + k) l
  | [], k, c => rfl
  | v :: l, k, c => by
    rw [List.zipIdx_cons, List.foldl_cons, foldl_wr off l (k + 1), wr, Nat.add_assoc]
theorem fill_step {place : Nat → Option (Nat × Nat)} {c : Array Value} {i off n : Nat} {v : Value} {rest : List (Nat × Value)} (hp : place i = some (off, n)) (hn : v.cells.size = n) (hc : off + n ≤ c.size) :
    Instr.fill place c ((i, v) :: rest) = Instr.fill place (wr c off v.cells.toList) rest := by
  have : v.cells.zipIdx.foldl (fun cs (x : Value × Nat) => cs.setIfInBounds (off + x.2) x.1) c = wr c off v.cells.toList := by
    rw [← Array.foldl_toList, Array.toList_zipIdx, foldl_wr]; simp
  simp only [Instr.fill, hp, hn]
  rw [if_neg (by simp; omega)]
  exact congrArg (fun x => Instr.fill place x rest) this
theorem rowsW_sound {e : Nat} {mu : Nat → Hdr} {F : Foot} (c : Core B s a w mu F) : ∀ (parts : List (Nat × Operand)) (k : Nat) (h : Hp) (F0 : Foot) (K' : List (List AV) → Hp → Prop), (∀ p ∈ parts, okO p.2 = true) → RepH (cx B w mu F s.nx) h F0 → rowsW s e k parts h K' →
    ∃ (rows : List (List AV)) (h' : Hp) (us : List Value) (Fr Fh : Foot), K' rows h' ∧ RowV (cx B w mu F s.nx).pu e rows us Fr ∧ RepH (cx B w mu F s.nx) h' Fh ∧ (∀ b, F0 b = Fr b + Fh b) ∧ rows.length = parts.length ∧
      ∀ (c0 : Array Value), (k + parts.length) * e ≤ c0.size → ∃ c1, Instr.fill (fun i => some (i * e, e)) c0 (parts.map fun p => (p.1, a.eval p.2)) = some c1 ∧ c1.size = c0.size ∧ (∀ j, j < k * e → c1[j]? = c0[j]?) ∧ ∀ j u, us[j]? = some u → c1[k * e + j]? = some u
  | [], k, h, F0, K', ho, hh, hw => ⟨[], h, [], fun _ => 0, F0, hw, RowV.nil _ _, hh, fun b => by simp, rfl, fun c0 hc => ⟨c0, rfl, rfl, fun _ _ => rfl, fun j u hj => by simp at hj⟩⟩
  | (i, x) :: r, k, h, F0, K', ho, hh, hw => by
    simp only [rowsW] at hw
    split at hw
    · rename_i cl hki hcl
      obtain ⟨h1, h2, h3, h4⟩ := hw
      obtain rfl := Nat.eq_of_beq_eq_true hki
      have hx := cells_rep (c.ev x (ho (k, x) (by simp))) hcl
      obtain ⟨F1, F2, k1, k2, k3⟩ := absC_sound (cl.map AV.nb) h F0 _ (nbL_rep _ _ _ hx) hh
      obtain ⟨rows, h', us, Fr, Fh, m1, m2, m3, m4, m5, m6⟩ := rowsW_sound c r (k + 1) _ F2 _ (fun p hp => ho p (by simp [hp])) k2 h4
      have hrow : RepL (cx B w mu F s.nx).pu (absC h (cl.map AV.nb)).1 (a.eval x).cells.toList F1 := npL_rep (Ext.refl _) _ _ _ k1 (fun _ _ => rfl) h3
      have hl : (absC h (cl.map AV.nb)).1.length = e := by rw [absC_length, List.length_map]; exact h1
      have hvl : (a.eval x).cells.toList.length = e := by rw [RepL.length _ _ _ hx]; exact h1
      refine ⟨_, h', (a.eval x).cells.toList ++ us, fun b => F1 b + Fr b, Fh, m1, RowV.cons hrow hl (all_one_rep _ _ _ hx h2) m2 (fun _ => rfl), m3, fun b => by have := k3 b; have := m4 b; simp only; omega, by simp [m5], fun c0 hc => ?_⟩
      have hc' : (k + 1 + r.length) * e ≤ c0.size := by rw [List.length_cons, show k + (r.length + 1) = k + 1 + r.length by omega] at hc; exact hc
      have hke : (k + 1) * e ≤ (k + 1 + r.length) * e := Nat.mul_le_mul_right _ (by omega)
      have hk1 : (k + 1) * e = k * e + e := by rw [Nat.add_mul, Nat.one_mul]
      obtain ⟨c1, q1, q2, q3, q4⟩ := m6 (wr c0 (k * e) (a.eval x).cells.toList) (by rw [wr_size]; exact hc')
      refine ⟨c1, ?_, by rw [q2, wr_size], fun j hj => ?_, fun j u hj => ?_⟩
      · rw [List.map_cons, fill_step (off := k * e) (n := e) rfl (by simpa using hvl) (by omega)]
        exact q1
      · rw [q3 j (by omega), wr_out _ _ _ _ (by omega)]
      · by_cases hjl : j < (a.eval x).cells.toList.length
        · rw [List.getElem?_append_left hjl] at hj
          rw [q3 _ (by omega)]
          exact wr_in _ _ _ _ _ (by omega) hj
        · rw [List.getElem?_append_right (by omega)] at hj
          have := q4 _ u hj
          rwa [show (k + 1) * e + (j - (a.eval x).cells.toList.length) = k * e + j by omega] at this
    · exact hw.elim
theorem y_buildSlice {t n : Nat} {parts : Array (Nat × Operand)} (e : o.op = .buildSlice t n parts) (ho : ∀ p ∈ parts.toList, okO p.2 = true) (hr : Rel B s a w) (h : stp P (.buildSlice t n parts) s K) : Yields P o a w (Out B a K) := by
  obtain ⟨mu, F, c⟩ := hr
  simp only [stp] at h
  split at h
  · rename_i sz by_ z hm
    obtain ⟨hpl, hsz, h⟩ := h
    have hpl := Nat.eq_of_beq_eq_true hpl
    obtain ⟨el, i, v, hu, hi, hz, rfl, rfl, hne, hbe, hr0, hcs, hzl, hone⟩ := mkT_spec hm
    obtain ⟨rows, h', us, Fr, Fh, ⟨hlim, hK⟩, m2, m3, m4, m5, m6⟩ := rowsW_sound c parts.toList 0 s.hp F _ ho c.hp h
    let zero : Array Value := if n * i.size = 0 then #[] else v.cells
    obtain ⟨c1, q1, q2, q3, q4⟩ := m6 ((Array.range (n * i.size)).map (fun j => zero[j % zero.size]!)) (by rw [hpl]; simp)
    have hO := m2.put c1 0 (fun j u hj => by have := q4 j u hj; rwa [Nat.zero_mul] at this)
    obtain ⟨F', c'⟩ := c.new (t := el) (d := z) (cap := n) (g := false) hO m3 (fun b => by rw [m4 b]; exact Nat.le_refl _) (by omega) hlim (by rw [q2]; simp)
    have hrn : rows.length = n := by omega
    refine yields_of (v := .slice (some ⟨w.heap.size, 0, none⟩) n n) (w' := w.alloc (.cells c1 el)) ?_ ⟨_, _, hK, _, F', c', by simp [cx], by simp [cx, updMu, hrn], fun _ => rfl⟩
    have hpm : (parts.map (fun (p : Nat × Operand) => (p.1, a.eval p.2))).toList = parts.toList.map fun p => (p.1, a.eval p.2) := by simp
    have h24 : ¬ (n * i.size > 2 ^ 24) := by omega
    simp only [execOp, e, Instr.buildSlice, run_underlying hu, Sem.run_bind, Result.andThen_ok, sizeOf, typeInfo, run_program, hi, Sem.run_pure, Sem.run_ite, h24, if_false]
    by_cases h0 : n * i.size = 0
    · simp only [h0, if_true, Sem.run_pure, Result.andThen_ok]
      have q1' : Instr.fill (fun j => some (j * i.size, i.size)) ((Array.range 0).map (fun j => (#[] : Array Value)[j % (#[] : Array Value).size]!)) (parts.map (fun (p : Nat × Operand) => (p.1, a.eval p.2))).toList = some c1 := by
        rw [hpm, ← q1]; simp only [zero, h0, if_true]
      simp only [q1']
      simp [newRow]
    · simp only [h0, if_false, zeroValue, typeInfo, Sem.run_bind, run_program, Result.andThen_ok, hi, hz, Sem.run_pure]
      have q1' : Instr.fill (fun j => some (j * i.size, i.size)) ((Array.range (n * i.size)).map (fun j => v.cells[j % v.cells.size]!)) (parts.map (fun (p : Nat × Operand) => (p.1, a.eval p.2))).toList = some c1 := by
        rw [hpm, ← q1]; simp only [zero, h0, if_false]
      simp only [q1']
      simp [newRow]
  · exact h.elim
end Go.Av
