/- Engine, part 11: lengths, results of calls, calls. -/
import Derived.Test.YtnhcchmbdkiodaaGreatAvJb
set_option linter.unusedVariables false
set_option linter.unusedSimpArgs false
set_option autoImplicit false
namespace Go.Av
variable {P : Program} [Known P] {B : Base P} {o : Oper} {s : St} {a : Act} {w : World} {K : St → AV → Prop}

theorem repL_get {C : Cx} : ∀ (l : List AV) (vs : List Value) (i : Nat), RepL C l vs (fun _ => 0) → i < l.length → ∃ v, vs[i]? = some v ∧ Rep C (l.getD i .dead) v (fun _ => 0)
  | [], vs, i, h, hi => by simp at hi
  | x :: l, vs, i, h, hi => by
    obtain ⟨v, vs', F1, F2, rfl, h1, h2, h3⟩ := h
    obtain ⟨rfl, rfl⟩ := zero_split h3
    cases i with
    | zero => exact ⟨v, rfl, h1⟩
    | succ i =>
      obtain ⟨u, k1, k2⟩ := repL_get l vs' i h2 (by simpa using hi)
      exact ⟨u, by simpa using k1, by simpa using k2⟩
theorem y_extract {x : Operand} {i : Nat} (e : o.op = .extract x i) (hx0 : okO x = true) (hr : Rel B s a w) (h : stp P (.extract x i) s K) : Yields P o a w (Out B a K) := by
  obtain ⟨mu, F, c⟩ := hr
  simp only [stp] at h
  have hx := c.ev x hx0
  split at h
  · rename_i l hl
    rw [hl] at hx
    obtain ⟨cs, hv, hL⟩ := hx
    obtain ⟨v, k1, k2⟩ := repL_get l cs i hL h.1
    exact y_val (x := v) (by simp [execOp, e, hv, Instr.extract, k1]) c k2 h.2
  · exact h.elim

/-- What 'len' needs to know of the type. -/
theorem RepOb.len {C : Cx} {o : Nat} {ob : Ob} {F : Foot} (h : RepOb C o ob F) : (C.mu o).len = ob.rows.length ∧ ob.rows.length ≤ lim := by
  rcases h.2 with ⟨_, h2, _, h4, _⟩ | ⟨b, c, t, FR, h1, h2, h3, h4, h5, _⟩
  · rw [h2, h4]; simp
  · exact ⟨h2, h5⟩

theorem repL_map {B : Base P} {s : St} {a : Act} {w : World} {mu : Nat → Hdr} {F : Foot} (c : Core B s a w mu F) : ∀ (l : List Operand), l.all okO = true → RepL (cx B w mu F s.nx) (l.map s.ev) (l.map a.eval) (fun _ => 0)
  | [], _ => ⟨rfl, fun _ => rfl⟩
  | x :: l, h => by
    simp only [List.all_cons, Bool.and_eq_true] at h
    exact ⟨_, _, _, _, rfl, c.ev x h.1, repL_map c l h.2, fun _ => rfl⟩
theorem nbVL_rep {C : Cx} : ∀ (l : List AV) (vs : List Value) (F : Foot), RepL C l vs F → RepL C (l.map AV.nbV) vs F
  | [], vs, F, h => h
  | x :: l, vs, F, h => by
    obtain ⟨v, us, F1, F2, e, h1, h2, h3⟩ := h
    exact ⟨v, us, F1, F2, e, nbV_rep h1, nbVL_rep l us F2 h2, h3⟩
theorem repL_app {C : Cx} : ∀ (l l' : List AV) (vs vs' : List Value), RepL C l vs (fun _ => 0) → RepL C l' vs' (fun _ => 0) → RepL C (l ++ l') (vs ++ vs') (fun _ => 0)
  | [], l', vs, vs', h, h' => by obtain ⟨rfl, _⟩ := h; simpa using h'
  | x :: l, l', vs, vs', h, h' => by
    obtain ⟨v, us, F1, F2, rfl, h1, h2, h3⟩ := h
    obtain ⟨rfl, rfl⟩ := zero_split h3
    exact ⟨v, us ++ vs', _, _, rfl, h1, repL_app l l' us vs' h2 h', fun _ => rfl⟩

/-- Behind a call whose arguments name no object. -/
theorem after_call {B : Base P} {s : St} {a : Act} {w w' : World} {mu : Nat → Hdr} {F : Foot} (c : Core B s a w mu F) {r : AV} {v : Value} {mu' : Nat → Hdr} {n' : Nat} {F' : Foot} {ok : Nat → Prop} {hgz0 : ∀ b, gl P b → b < w.heap.size ∧ (fun _ => 0 : Foot) b = 0} {hgx : Gx P w}
    (hok : ∀ b, ok b → F b = 0 ∧ (B.ok b ∨ B.w.heap.size ≤ b ∨ B.F b ≠ 0)) (hf : Fin ⟨w, ok, fun _ => 0, 0, fun _ => default, hgz0, hgx⟩ w' F') (hr : Rep (cx ⟨w, ok, fun _ => 0, 0, fun _ => default, hgz0, hgx⟩ w' mu' F' n') r v F') (hnp : r.np = true) (ht : r.top2 = true) :
    RelV B ⟨s.tm, (inst s.nx r).2.1 ++ s.hp, (inst s.nx r).2.2⟩ a w' (inst s.nx r).1 v := by
  have hold : ∀ b, F' b ≠ 0 → w.heap.size ≤ b := fun b hb => (hf.blk b hb).2.resolve_right (by simp)
  have hdis : ∀ b, F b ≠ 0 → F' b = 0 := fun b hb => Classical.byContradiction fun h => by have := hold b h; have := (c.blk b hb).1; omega
  let G : Foot := fun b => F' b + F b
  have st : Stp w w' F G := ⟨hf.os, hf.tape, hf.output, hf.size, fun b hb _ => hf.old b hb rfl, fun b hb h0 => by
      have : F' b = 0 := Classical.byContradiction fun h => by have := hold b h; omega
      simp only [G]; omega, fun b => by
      have h1 := hf.one b; have h2 := c.one b
      simp only [G]
      by_cases h : F b = 0
      · omega
      · have := hdis b h; omega, fun b hb => by
      simp only [G] at hb
      by_cases h : F b = 0
      · exact (hf.blk b (by omega)).1
      · exact Nat.lt_of_lt_of_le (c.blk b h).1 hf.size⟩
  have hx1 : Ext (cx ⟨w, ok, fun _ => 0, 0, fun _ => default, hgz0, hgx⟩ w' mu' F' n').pu (cx B w' mu G s.nx) := by
    refine ⟨fun b hb => ⟨hb.1, ?_, ?_⟩, fun b hb => rfl, Nat.zero_le _, fun o ho => absurd ho (Nat.not_lt_zero _)⟩
    · have h1 := hb.2.1
      simp only [G]
      rcases hb.2.2 with h | h | h
      · have := (hok b h).1; omega
      rotate_left
      · exact absurd rfl h
      · have h' : w.heap.size ≤ b := h
        have : F b = 0 := Classical.byContradiction fun hne => by have := (c.blk b hne).1; omega
        omega
    · rcases hb.2.2 with h | h | h
      · exact (hok b h).2
      · exact .inr (.inl (Nat.le_trans c.size h))
      · exact absurd rfl h
  have hr' := np_rep hx1 r v F' hr (fun _ _ => rfl) hnp
  obtain ⟨C', k1, k2⟩ := inst_sound (C := cx B w' mu G s.nx) r v F' hr' ht
  have hx2 := st.ext (B := B) (mu := mu) (mu' := mu) (n := s.nx) (n' := s.nx) (Nat.le_refl _) (fun _ _ => rfl)
  have hC : C' = cx B w' C'.mu G C'.nx := by
    have h1 := k1.w; have h2 := k1.ok
    cases C'; simp only [cx] at *; rw [h1, h2]
  have hh : RepH C' s.hp F := RepH.mono k1.ext _ _ (RepH.mono hx2 _ _ c.hp (fun b hb => hf.old b (c.blk b hb).1 rfl)) (fun b _ => by rw [k1.w])
  have happ := RepH.app _ _ _ _ k1.hp hh
  refine ⟨C'.mu, G, ?_, ?_⟩
  · refine c.step (s' := ⟨s.tm, (inst s.nx r).2.1 ++ s.hp, (inst s.nx r).2.2⟩) st ?_ k1.mu rfl ?_
    · show s.nx ≤ (inst s.nx r).2.2
      have := k1.le; rw [k1.nx] at this; exact this
    · have : cx B w' C'.mu G (inst s.nx r).2.2 = C' := by rw [hC]; congr 1; exact k1.nx.symm
      show RepH (cx B w' C'.mu G (inst s.nx r).2.2) ((inst s.nx r).2.1 ++ s.hp) G
      rw [this]; exact happ
  · have : cx B w' C'.mu G (inst s.nx r).2.2 = C' := by rw [hC]; congr 1; exact k1.nx.symm
    show Rep (cx B w' C'.mu G (inst s.nx r).2.2) _ _ _
    rw [this]; exact k2
theorem rdL_length : ∀ l : List AV, (rdL l).length = l.length
  | [] => rfl
  | x :: l => by simp [rdL, rdL_length l]
theorem rdR_length : ∀ l : List (List AV), (rdR l).length = l.length
  | [] => rfl
  | x :: l => by simp [rdR, rdR_length l]
theorem y_min {cl : Call} (e : o.op = .call cl) (hcal : cl.callee = .builtin .min) (hargs0 : cl.args.toList.all okO = true) (hr : Rel B s a w) (h : stp P (.call cl) s K) : Yields P o a w (Out B a K) := by
  obtain ⟨mu, F, c⟩ := hr
  simp only [stp, hcal] at h
  split at h
  · rename_i x y hargs
    have ha : cl.args = #[x, y] := by rw [← Array.toList_inj]; exact hargs
    rw [hargs] at hargs0
    have hargs0 : okO x = true ∧ okO y = true := by simpa using hargs0
    have hx := c.ev x hargs0.1
    have hy := c.ev y hargs0.2
    split at h
    · rename_i k n k' m h1 h2
      obtain ⟨rfl, h⟩ := h
      rw [h1] at hx
      rw [h2] at hy
      have hmin : (if m < n then m else n) = min n m := by
        by_cases hlt : m < n
        · rw [if_pos hlt]; omega
        · rw [if_neg hlt]; omega
      refine y_val (v := .int k (min n m)) (x := .int k (min n m)) ?_ c (rep_int ?_) h
      · rw [← hmin]
        simp [execOp, e, resolve, hcal, ha, invoke, builtin, Builtin.min_, Builtin.min2, hx.1, hy.1]
      · rcases (show min n m = n ∨ min n m = m by omega) with q | q
        · rw [q]; exact hx.2.1
        · rw [q]; exact hy.2.1
    · exact h.elim
  · exact h.elim
theorem y_len {cl : Call} (e : o.op = .call cl) (hcal : cl.callee = .builtin .len) (hargs0 : cl.args.toList.all okO = true) (hr : Rel B s a w) (h : stp P (.call cl) s K) : Yields P o a w (Out B a K) := by
  obtain ⟨mu, F, c⟩ := hr
  simp only [stp, hcal] at h
  split at h
  · rename_i x t hargs hty
    have ha : cl.args = #[x] := by rw [← Array.toList_inj]; exact hargs
    have ht : cl.argTypes = #[t] := by rw [← Array.toList_inj]; exact hty
    rw [hargs] at hargs0
    have hx := c.ev x (by simpa using hargs0)
    split at h
    · rename_i rows d h1 h2
      rw [h2] at hx
      obtain ⟨⟨ad, cap, hv, k1, k2, k3⟩, _⟩ := hx
      obtain ⟨el, hu⟩ := lkT_slice h1
      exact y_val (x := .int .i64 rows.length) (by simp [execOp, e, resolve, hcal, ha, ht, invoke, builtin, Builtin.len_, underlying, hu, hv, goInt]) c (rep_int (wrap_i64 (by unfold lim at k2; unfold In64; omega))) (h k2)
    · rename_i h1 h2
      rw [h2] at hx
      obtain ⟨el, hu⟩ := lkT_slice h1
      exact y_val (x := .int .i64 0) (by simp [execOp, e, resolve, hcal, ha, ht, invoke, builtin, Builtin.len_, underlying, hu, hx.1, goInt]) c (rep_int (by decide)) h
    · rename_i i_o h1 h2
      rw [h2] at hx
      obtain ⟨el, hu⟩ := lkT_slice h1
      split at h
      · rename_i ob hob
        obtain ⟨hlt, hv, _⟩ := hx
        obtain ⟨G1, G2, m1, m2, m3⟩ := RepH.take s.hp F _ ob c.hp hob
        have hl := m1.len
        refine y_val (v := .int .i64 ob.rows.length) (x := .int .i64 ob.rows.length) ?_ c (rep_int (wrap_i64 (by have := hl.2; unfold lim at this; unfold In64; omega))) (h hl.2)
        have hl1 : (mu i_o).len = ob.rows.length := hl.1
        simp only [cx] at hv
        simp [execOp, e, resolve, hcal, ha, ht, invoke, builtin, Builtin.len_, underlying, hu, hv, goInt, hl1]
      · exact h.elim
    · rename_i b h1 h2
      rw [h2] at hx
      have hu := lkT_str h1
      exact y_val (x := .int .i64 b.size) (by simp [execOp, e, resolve, hcal, ha, ht, invoke, builtin, Builtin.len_, underlying, hu, hx.1, goInt]) c (rep_int (wrap_i64 (by have := hx.2.1; unfold lim at this; unfold In64; omega))) (h hx.2.1)
    · exact h.elim
  · exact h.elim

theorem ext_rd {C : Cx} {w : World} {ok : Nat → Prop} (hw : C.w = w) (hok : ∀ b, C.ok b → ok b) : Ext C.pu ⟨w, ok, fun _ => default, 0⟩ := ⟨hok, fun b _ => by subst hw; rfl, Nat.le_refl _, fun _ _ => rfl⟩
mutual
theorem rd_rep {C : Cx} {w : World} {ok : Nat → Prop} (hw : C.w = w) (hok : ∀ b, C.ok b → ok b) : ∀ (a : AV) (v : Value) (F : Foot), Rep C.pu a v F → (∀ b, F b ≠ 0 → ok b) → Rep ⟨w, ok, fun _ => default, 0⟩ a.rd v (fun _ => 0)
  | .dead, v, F, h, k => fun _ => rfl
  | .int _ _, v, F, h, k => ⟨h.1, h.2.1, fun _ => rfl⟩
  | .tt, v, F, h, k => ⟨h.1, fun _ => rfl⟩
  | .ff, v, F, h, k => ⟨h.1, fun _ => rfl⟩
  | .bool _, v, F, h, k => ⟨h.1, fun _ => rfl⟩
  | .str _, v, F, h, k => ⟨h.1, h.2.1, fun _ => rfl⟩
  | .agg l, v, F, h, k => by obtain ⟨cs, r, h⟩ := h; exact ⟨cs, r, rdL_rep hw hok l cs F h k⟩
  | .tup l, v, F, h, k => by obtain ⟨cs, r, h⟩ := h; exact ⟨cs, r, rdL_rep hw hok l cs F h k⟩
  | .sl x y z, v, F, h, k => by
    obtain ⟨h1, h2⟩ := h
    exact Rep.mono (ext_rd hw hok) (.sl x y z) v (fun _ => 0) ⟨h1, fun _ => rfl⟩ (fun b hb => absurd rfl hb)
  | .own e rows d, v, F, h, k => by
    rcases h with ⟨h1, h2, h3⟩ | ⟨b, cap, c, t, FR, h1, h2, h3, h4, h5, h6, h7⟩
    · subst h2; rw [h1]; exact ⟨⟨none, 0, rfl, by simp [rdR], by simp [rdR], trivial⟩, fun _ => rfl⟩
    · have hb : ok b := k b (by rw [h7]; simp)
      have hl : (rdR rows).length = rows.length := rdR_length rows
      refine ⟨⟨some ⟨b, 0, none⟩, cap, by rw [hl]; exact h1, by rw [hl]; exact h2, by rw [hl]; exact h3, ?_⟩, fun _ => rfl⟩
      exact rdR_rep hw hok e b c t (by rw [← hw]; exact h4) hb rows 0 FR (by rw [Nat.zero_mul]; exact h6) (fun x hx => k x (by rw [h7]; omega))
  | .nils, v, F, h, k => ⟨h.1, fun _ => rfl⟩
  | .os _, v, F, h, k => absurd h.1 (Nat.not_lt_zero _)
  | .rp x, v, F, h, k => by
    obtain ⟨h1, h2⟩ := h
    exact Rep.mono (ext_rd hw hok) (.rp x) v (fun _ => 0) ⟨h1, fun _ => rfl⟩ (fun b hb => absurd rfl hb)
  | .cp _ _ _, v, F, h, k => absurd h.1 (Nat.not_lt_zero _)
  | .nilp, v, F, h, k => ⟨h.1, fun _ => rfl⟩
  | .fn _ l, v, F, h, k => by obtain ⟨cs, r, h⟩ := h; exact ⟨cs, r, rdL_rep hw hok l cs F h k⟩
  | .nilfn, v, F, h, k => ⟨h.1, fun _ => rfl⟩
  | .iface _ x, v, F, h, k => by obtain ⟨u, r, h⟩ := h; exact ⟨u, r, rd_rep hw hok x u F h k⟩
  | .nilif, v, F, h, k => ⟨h.1, fun _ => rfl⟩
theorem rdL_rep {C : Cx} {w : World} {ok : Nat → Prop} (hw : C.w = w) (hok : ∀ b, C.ok b → ok b) : ∀ (l : List AV) (vs : List Value) (F : Foot), RepL C.pu l vs F → (∀ b, F b ≠ 0 → ok b) → RepL ⟨w, ok, fun _ => default, 0⟩ (rdL l) vs (fun _ => 0)
  | [], vs, F, h, k => ⟨h.1, fun _ => rfl⟩
  | x :: l, vs, F, h, k => by
    obtain ⟨v, vs', F1, F2, r, h1, h2, h3⟩ := h
    exact ⟨v, vs', _, _, r, rd_rep hw hok x v F1 h1 (fun b hb => k b (by have := h3 b; omega)), rdL_rep hw hok l vs' F2 h2 (fun b hb => k b (by have := h3 b; omega)), fun _ => rfl⟩
theorem rdB_rep {C : Cx} {w : World} {ok : Nat → Prop} (hw : C.w = w) (hok : ∀ b, C.ok b → ok b) (b : Nat) (c : Array Value) (t : TypeId) (hb : w.heap[b]? = some (.cells c t (0, 0))) (hbo : ok b) :
    ∀ (l : List AV) (off : Nat) (F : Foot), RepB C.pu l c off F → (∀ b, F b ≠ 0 → ok b) → RepA ⟨w, ok, fun _ => default, 0⟩ (rdL l) ⟨b, 0, none⟩ off
  | [], off, F, h, k => trivial
  | x :: l, off, F, h, k => by
    obtain ⟨u, F1, F2, e, o1, h1, h2, h3⟩ := h
    exact ⟨⟨hbo, u, by rw [add_none, cell_heap hb, Nat.zero_add]; exact e, o1, rd_rep hw hok x u F1 h1 (fun b hb => k b (by have := h3 b; omega))⟩, rdB_rep hw hok b c t hb hbo l (off + 1) F2 h2 (fun b hb => k b (by have := h3 b; omega))⟩
theorem rdR_rep {C : Cx} {w : World} {ok : Nat → Prop} (hw : C.w = w) (hok : ∀ b, C.ok b → ok b) (e b : Nat) (c : Array Value) (t : TypeId) (hb : w.heap[b]? = some (.cells c t (0, 0))) (hbo : ok b) :
    ∀ (l : List (List AV)) (i : Nat) (F : Foot), RepO C.pu e l c (i * e) F → (∀ b, F b ≠ 0 → ok b) → RepR ⟨w, ok, fun _ => default, 0⟩ e (rdR l) (some ⟨b, 0, none⟩) i
  | [], i, F, h, k => trivial
  | r :: l, i, F, h, k => by
    obtain ⟨F1, F2, e1, h1, h2, h3⟩ := h
    refine ⟨⟨⟨b, 0, none⟩, rfl, by rw [rdL_length]; exact e1, rdB_rep hw hok b c t hb hbo r (i * e) F1 h1 (fun b hb => k b (by have := h3 b; omega))⟩, rdR_rep hw hok e b c t hb hbo l (i + 1) F2 (by rw [Nat.add_mul, Nat.one_mul]; exact h2) (fun b hb => k b (by have := h3 b; omega))⟩
end

theorem RepB.drop {C : Cx} {c : Array Value} : ∀ (k : Nat) (l : List AV) (off : Nat) (F : Foot), RepB C l c off F → ∃ F', RepB C (l.drop k) c (off + k) F' ∧ ∀ b, F' b ≤ F b
  | 0, l, off, F, h => ⟨F, h, fun b => Nat.le_refl _⟩
  | k + 1, [], off, F, h => ⟨fun _ => 0, fun _ => rfl, fun b => Nat.zero_le _⟩
  | k + 1, x :: l, off, F, h => by
    obtain ⟨u, F1, F2, e, o1, h1, h2, h3⟩ := h
    obtain ⟨F', k1, k2⟩ := RepB.drop k l (off + 1) F2 h2
    exact ⟨F', by rw [List.drop_succ_cons, show off + (k + 1) = off + 1 + k by omega]; exact k1, fun b => by have := h3 b; have := k2 b; omega⟩
theorem pur_rep {C : Cx} {w : World} {ok : Nat → Prop} {hp : Hp} {F : Foot} (hw : C.w = w) (hok : ∀ b, C.ok b → ok b) (hH : RepH C hp F) (hF : ∀ b, F b ≠ 0 → ok b) :
    ∀ (n : Nat) (a : AV) (v : Value) (Fa : Foot), Rep C a v Fa → (∀ b, Fa b ≠ 0 → ok b) → Rep ⟨w, ok, fun _ => default, 0⟩ (pur n hp a) v (fun _ => 0) := by
  intro n
  induction n with
  | zero => intro a v Fa h k; exact fun _ => rfl
  | succ n ih =>
    have ihL : ∀ (l : List AV) (vs : List Value) (Fa : Foot), RepL C l vs Fa → (∀ b, Fa b ≠ 0 → ok b) → RepL ⟨w, ok, fun _ => default, 0⟩ (l.map (pur n hp)) vs (fun _ => 0) := by
      intro l
      induction l with
      | nil => intro vs Fa h k; exact ⟨h.1, fun _ => rfl⟩
      | cons x l ihl =>
        intro vs Fa h k
        obtain ⟨v, us, F1, F2, e, h1, h2, h3⟩ := h
        exact ⟨v, us, _, _, e, ih x v F1 h1 (fun b hb => k b (by have := h3 b; omega)), ihl us F2 h2 (fun b hb => k b (by have := h3 b; omega)), fun _ => rfl⟩
    have ihA : ∀ (b : Nat) (c : Array Value) (t : TypeId), w.heap[b]? = some (.cells c t (0, 0)) → ok b → ∀ (l : List AV) (off : Nat) (Fa : Foot), RepB C l c off Fa → (∀ b, Fa b ≠ 0 → ok b) → RepA ⟨w, ok, fun _ => default, 0⟩ (l.map (pur n hp)) ⟨b, 0, none⟩ off := by
      intro b c t hb hbo l
      induction l with
      | nil => intro off Fa h k; trivial
      | cons x l ihl =>
        intro off Fa h k
        obtain ⟨u, F1, F2, e, o1, h1, h2, h3⟩ := h
        exact ⟨⟨hbo, u, by rw [add_none, cell_heap hb, Nat.zero_add]; exact e, o1, ih x u F1 h1 (fun b hb => k b (by have := h3 b; omega))⟩, ihl (off + 1) F2 h2 (fun b hb => k b (by have := h3 b; omega))⟩
    intro a v Fa h k
    cases a with
    | os o =>
      simp only [pur]
      split
      · rename_i ob hob
        split
        · rename_i hg
          obtain ⟨hlt, hv, _⟩ := h
          obtain ⟨G1, G2, m1, m2, m3⟩ := RepH.take hp F o ob hH hob
          rcases m1.2 with ⟨q1, q2, q3, q4, q5⟩ | ⟨b, c, t, FR, q1, q2, q3, q4, q5, q6, q7, q8, q9⟩
          · rw [q1, q2, q3] at hv
            rw [q4]
            exact ⟨⟨none, 0, by rw [hv]; rfl, by simp [rdR], by simp [rdR], trivial⟩, fun _ => rfl⟩
          · have hb : ok b := hF b (by have := m3 b; have := q9 b; simp at this; omega)
            rw [hg] at q8
            have hl : (rdR ob.rows).length = ob.rows.length := rdR_length _
            refine ⟨⟨some ⟨b, 0, none⟩, (C.mu o).cap, by rw [hl, hv, q1, q2]; rfl, by rw [hl]; exact q4, by rw [hl]; exact q5, ?_⟩, fun _ => rfl⟩
            exact rdR_rep hw hok ob.e b c t (by rw [← hw]; exact q6) hb ob.rows 0 FR (by rw [Nat.zero_mul]; exact q8) (fun x hx => hF x (by have := m3 x; have := q9 x; omega))
        · exact fun _ => rfl
      · exact fun _ => rfl
    | cp o i off =>
      simp only [pur]
      split
      · rename_i ob hob
        split
        · rename_i hlt0
          have hi : i < ob.rows.length := Nat.le_of_ble_eq_true hlt0
          obtain ⟨hlt, ⟨b, hb, hv⟩, _⟩ := h
          obtain ⟨G1, G2, m1, m2, m3⟩ := RepH.take hp F o ob hH hob
          obtain ⟨b', c, t, FR, q1, q2, q3, q4, q5, q6, q7, q8, q9⟩ := m1.rows (by omega)
          obtain rfl : b = b' := Option.some.inj (hb.symm.trans q1)
          obtain ⟨r1, F1, F2, r2, r3, _⟩ := RepO.focus _ 0 FR i _ q8 (getD_some (d := ob.d) hi)
          obtain ⟨F3, r4, r5⟩ := RepB.drop off _ _ _ (r2.mono (ext_sel _ _) _ _ _ _ (fun _ _ => by rw [Cx.sel_w]))
          have hbo : ok b := hF b (by have := m3 b; have := q9 b; simp at this; omega)
          rw [q3] at hv
          refine ⟨⟨⟨b, i * ob.e + off, none⟩, hv, ?_⟩, fun _ => rfl⟩
          have := ihA b c t (by rw [← hw]; exact q6) hbo _ _ F3 r4 (fun x hx => hF x (by have := m3 x; have := q9 x; have := r3 x; have := r5 x; omega))
          have h2 := (RepA.shift _ ⟨b, 0, none⟩ (0 + i * ob.e + off) 0).1 (by rw [Nat.add_zero]; exact this)
          rw [add_none, Nat.zero_add, Nat.zero_add] at h2
          rw [List.map_drop] at h2 ⊢
          exact h2
        · exact fun _ => rfl
      · exact fun _ => rfl
    | own e rows d =>
      have := rd_rep hw hok (.own e rows d) v Fa h k
      simpa [AV.rd, pur] using this
    | agg l => obtain ⟨cs, r, h⟩ := h; exact ⟨cs, r, ihL l cs Fa h k⟩
    | tup l => obtain ⟨cs, r, h⟩ := h; exact ⟨cs, r, ihL l cs Fa h k⟩
    | fn f l => obtain ⟨cs, r, h⟩ := h; exact ⟨cs, r, ihL l cs Fa h k⟩
    | iface t x => obtain ⟨u, r, h⟩ := h; exact ⟨u, r, ih x u Fa h k⟩
    | dead => exact fun _ => rfl
    | int _ _ => exact ⟨h.1, h.2.1, fun _ => rfl⟩
    | str _ => exact ⟨h.1, h.2.1, fun _ => rfl⟩
    | sl x y z => exact rd_rep (C := C) hw hok (.sl x y z) v Fa h k
    | rp x => exact rd_rep (C := C) hw hok (.rp x) v Fa h k
    | _ => exact ⟨h.1, fun _ => rfl⟩

mutual
theorem na_rep {C C' : Cx} (hw : C'.w = C.w) : ∀ (a : AV) (v : Value) (F : Foot), Rep C.pu a v F → a.na = true → Rep C'.pu a v F
  | .dead, v, F, h, e => h
  | .int _ _, v, F, h, e => h
  | .tt, v, F, h, e => h
  | .ff, v, F, h, e => h
  | .bool _, v, F, h, e => h
  | .str _, v, F, h, e => h
  | .agg l, v, F, h, e => by obtain ⟨cs, r, h⟩ := h; exact ⟨cs, r, naL_rep hw l cs F h e⟩
  | .tup l, v, F, h, e => by obtain ⟨cs, r, h⟩ := h; exact ⟨cs, r, naL_rep hw l cs F h e⟩
  | .sl x y z, v, F, h, e => by simp [AV.na] at e
  | .own e' rows d, v, F, h, e => by
    rcases h with h | ⟨b, cap, c, t, FR, h1, h2, h3, h4, h5, h6, h7⟩
    · exact .inl h
    · exact .inr ⟨b, cap, c, t, FR, h1, h2, h3, by show C'.w.heap[b]? = _; rw [hw]; exact h4, h5, naR_rep hw e' rows c 0 FR h6 e, h7⟩
  | .nils, v, F, h, e => h
  | .os _, v, F, h, e => absurd h.1 (Nat.not_lt_zero _)
  | .rp x, v, F, h, e => by simp [AV.na] at e
  | .cp _ _ _, v, F, h, e => absurd h.1 (Nat.not_lt_zero _)
  | .nilp, v, F, h, e => h
  | .fn _ l, v, F, h, e => by obtain ⟨cs, r, h⟩ := h; exact ⟨cs, r, naL_rep hw l cs F h e⟩
  | .nilfn, v, F, h, e => h
  | .iface _ x, v, F, h, e => by obtain ⟨u, r, h⟩ := h; exact ⟨u, r, na_rep hw x u F h e⟩
  | .nilif, v, F, h, e => h
theorem naL_rep {C C' : Cx} (hw : C'.w = C.w) : ∀ (l : List AV) (vs : List Value) (F : Foot), RepL C.pu l vs F → naL l = true → RepL C'.pu l vs F
  | [], vs, F, h, e => h
  | x :: l, vs, F, h, e => by
    obtain ⟨v, vs', F1, F2, r, h1, h2, h3⟩ := h
    simp only [naL, Bool.and_eq_true] at e
    exact ⟨v, vs', F1, F2, r, na_rep hw x v F1 h1 e.1, naL_rep hw l vs' F2 h2 e.2, h3⟩
theorem naB_rep {C C' : Cx} (hw : C'.w = C.w) : ∀ (l : List AV) (c : Array Value) (off : Nat) (F : Foot), RepB C.pu l c off F → naL l = true → RepB C'.pu l c off F
  | [], c, off, F, h, e => h
  | x :: l, c, off, F, h, e => by
    obtain ⟨u, F1, F2, r, o1, h1, h2, h3⟩ := h
    simp only [naL, Bool.and_eq_true] at e
    exact ⟨u, F1, F2, r, o1, na_rep hw x u F1 h1 e.1, naB_rep hw l c (off + 1) F2 h2 e.2, h3⟩
theorem naR_rep {C C' : Cx} (hw : C'.w = C.w) (n : Nat) : ∀ (l : List (List AV)) (c : Array Value) (off : Nat) (F : Foot), RepO C.pu n l c off F → naR l = true → RepO C'.pu n l c off F
  | [], c, off, F, h, e => h
  | r :: l, c, off, F, h, e => by
    obtain ⟨F1, F2, r1, h1, h2, h3⟩ := h
    simp only [naR, Bool.and_eq_true] at e
    exact ⟨F1, F2, r1, naB_rep hw r c off F1 h1 e.1, naR_rep hw n l c (off + n) F2 h2 e.2, h3⟩
end
theorem callW_sound {f : FuncId} {args : List AV} {vs : List Value} {mu : Nat → Hdr} {F : Foot} (c : Core B s a w mu F) (hargs : RepL (cx B w mu F s.nx) args vs (fun _ => 0)) (h : CallW P f args s K) :
    Enters P f ∧ Calls P f vs.toArray w (fun e w' => ∃ v, e = .returned v ∧ Out B a K v w') := by
  let ok : Nat → Prop := fun b => F b = 0 ∧ (B.ok b ∨ B.w.heap.size ≤ b ∨ B.F b ≠ 0)
  have hgx : Gx P w := c.gx
  have hgz1 : ∀ F1 : Foot, (∀ b, F1 b ≤ F b) → ∀ b, gl P b → b < w.heap.size ∧ F1 b = 0 := fun F1 h1 b hb => ⟨(c.gz b hb).1, by have := h1 b; have := (c.gz b hb).2; omega⟩
  have hgz0 : ∀ b, gl P b → b < w.heap.size ∧ (fun _ => 0 : Foot) b = 0 := fun b hb => ⟨(c.gz b hb).1, rfl⟩
  cases h with
  | plain Q np en hc hk =>
    refine ⟨en, ?_⟩
    have hx : Ext (cx B w mu F s.nx).pu (cx ⟨w, ok, fun _ => 0, 0, fun _ => default, hgz0, hgx⟩ w (fun _ => default) (fun _ => 0) 0) :=
      ⟨fun b hb => ⟨hb.1, rfl, .inl ⟨hb.2.1, hb.2.2⟩⟩, fun _ _ => rfl, Nat.le_refl _, fun o ho => absurd ho (Nat.not_lt_zero _)⟩
    have hargs' := nbVL_rep _ _ _ (npL_rep hx _ _ _ hargs (fun _ _ => rfl) np)
    refine (hc ⟨w, ok, fun _ => 0, 0, fun _ => default, hgz0, hgx⟩ _ rfl (fun b => by simp) (fun b hb => absurd rfl hb) hargs' (fun _ => rfl)).mono ?_
    rintro e' w' ⟨r, _, ⟨hQ, rfl⟩, v, mu', n', F', Fr, Fh, rfl, hn, hmu, hfin, hsum, hrep, hhp⟩
    obtain ⟨tp, rn, hk⟩ := hk r hQ
    have hFF : Fr = F' := funext fun b => by have := hsum b; have := hhp b; omega
    subst hFF
    exact ⟨v, rfl, _, _, hk, after_call c (fun b hb => hb) hfin hrep rn tp⟩
  | lent Q np en hc hk =>
    refine ⟨en, ?_⟩
    let ok2 : Nat → Prop := fun b => b < w.heap.size
    have hargs1 : RepL ⟨w, ok2, fun _ => default, 0⟩ (args.map (pur 4 s.hp)) vs (fun _ => 0) := by
      have : ∀ (l : List AV) (us : List Value), RepL (cx B w mu F s.nx) l us (fun _ => 0) → RepL ⟨w, ok2, fun _ => default, 0⟩ (l.map (pur 4 s.hp)) us (fun _ => 0) := by
        intro l
        induction l with
        | nil => intro us h; exact h
        | cons x l ih =>
          intro us h
          obtain ⟨v, us', F1, F2, e, h1, h2, h3⟩ := h
          obtain ⟨rfl, rfl⟩ := zero_split h3
          exact ⟨v, us', _, _, e, pur_rep (C := cx B w mu F s.nx) (ok := ok2) rfl (fun b hb => hb.1) c.hp (fun b hb => (c.blk b hb).1) 4 x v _ h1 (fun b hb => absurd rfl hb), ih us' h2, fun _ => rfl⟩
      exact this args vs hargs
    have hargs' : RepL (cx ⟨w, fun _ => True, fun _ => 0, 0, fun _ => default, hgz0, hgx⟩ w (fun _ => default) (fun _ => 0) 0) ((args.map (pur 4 s.hp)).map AV.nbV) vs (fun _ => 0) :=
      nbVL_rep _ _ _ (RepL.mono (C := ⟨w, ok2, fun _ => default, 0⟩) (C' := cx ⟨w, fun _ => True, fun _ => 0, 0, fun _ => default, hgz0, hgx⟩ w (fun _ => default) (fun _ => 0) 0) ⟨fun b hb => ⟨hb, rfl, .inl trivial⟩, fun _ _ => rfl, Nat.le_refl _, fun _ _ => rfl⟩ _ _ _ hargs1 (fun _ _ => rfl))
    refine (hc ⟨w, fun _ => True, fun _ => 0, 0, fun _ => default, hgz0, hgx⟩ _ rfl (fun b => by simp) (fun b hb => absurd rfl hb) hargs' (fun _ => rfl)).mono ?_
    rintro e' w' ⟨r, _, ⟨hQ, rfl⟩, v, mu', n', F', Fr, Fh, rfl, hn, hmu, hfin, hsum, hrep, hhp⟩
    obtain ⟨tp, rn, na, hk⟩ := hk r hQ
    have hFF : Fr = F' := funext fun b => by have := hsum b; have := hhp b; omega
    subst hFF
    have hrep1 : Rep (cx ⟨w, fun _ => True, fun _ => 0, 0, fun _ => default, hgz0, hgx⟩ w' mu' Fr n').pu r v Fr := np_rep (Ext.refl _) r v Fr hrep (fun _ _ => rfl) rn
    have hrep2 : Rep (cx ⟨w, ok, fun _ => 0, 0, fun _ => default, hgz0, hgx⟩ w' mu' Fr n').pu r v Fr := na_rep (C := cx ⟨w, fun _ => True, fun _ => 0, 0, fun _ => default, hgz0, hgx⟩ w' mu' Fr n') (C' := cx ⟨w, ok, fun _ => 0, 0, fun _ => default, hgz0, hgx⟩ w' mu' Fr n') rfl r v Fr hrep1 na
    have hrep3 := Rep.mono (ext_pu (cx ⟨w, ok, fun _ => 0, 0, fun _ => default, hgz0, hgx⟩ w' mu' Fr n')) r v Fr hrep2 (fun _ _ => rfl)
    exact ⟨v, rfl, _, _, hk, after_call c (fun b hb => hb) ⟨hfin.os, hfin.tape, hfin.output, hfin.size, hfin.old, hfin.one, hfin.blk⟩ hrep3 rn tp⟩
  | lend ρ n args' hin Q fu ke ha hh en hc hk =>
    refine ⟨en, ?_⟩
    let mu0 : Nat → Hdr := fun o => match lkR ρ o with
      | none => mu o
      | some none => default
      | some (some x) => mu x
    have rc : ∀ (F1 : Foot) (h1 : ∀ b, F1 b ≤ F b), RC ρ (cx B w mu F s.nx) (cx ⟨w, ok, F1, n, mu0, hgz1 F1 h1, hgx⟩ w mu0 F1 n) := fun F1 h1 =>
      ⟨⟨fun b hb => ⟨hb.1, by have := h1 b; have := hb.2.1; show F1 b = 0; omega, .inl ⟨hb.2.1, hb.2.2⟩⟩, fun _ _ => rfl, Nat.le_refl _, fun _ _ => rfl⟩, rfl, fun _ _ => rfl⟩
    have rc0 : RC ρ (cx B w mu F s.nx) (cx ⟨w, ok, fun _ => 0, n, mu0, hgz0, hgx⟩ w mu0 F n) :=
      ⟨⟨fun b hb => ⟨hb.1, hb.2.1, .inl ⟨hb.2.1, hb.2.2⟩⟩, fun _ _ => rfl, Nat.le_refl _, fun _ _ => rfl⟩, rfl, fun _ _ => rfl⟩
    obtain ⟨F1, F2, q1, q2, q3⟩ := leH_rest rc0 hin s.hp F hh c.hp
    have h1F : ∀ b, F1 b ≤ F b := fun b => by have := q3 b; omega
    have hargs' : RepL (cx ⟨w, ok, F1, n, mu0, hgz1 F1 h1F, hgx⟩ w mu0 F1 n) args' vs (fun _ => 0) := renL_rep (rc F1 h1F) args' vs _ ha.2 (subL_rep _ _ _ _ (nbVL_rep _ _ _ hargs) ha.1)
    have hxi : Ext (cx ⟨w, ok, fun _ => 0, n, mu0, hgz0, hgx⟩ w mu0 F n) (cx ⟨w, ok, F1, n, mu0, hgz1 F1 h1F, hgx⟩ w mu0 F1 n) := by
      refine ⟨fun b hb => ⟨hb.1, by have := h1F b; have := hb.2.1; show F1 b = 0; omega, ?_⟩, fun _ _ => rfl, Nat.le_refl _, fun _ _ => rfl⟩
      rcases hb.2.2 with h | h | h
      · exact .inl h
      · exact .inr (.inl h)
      · exact absurd rfl h
    have hin' : RepH (cx ⟨w, ok, F1, n, mu0, hgz1 F1 h1F, hgx⟩ w mu0 F1 n) hin F1 := RepH.mono hxi _ _ q1 (fun _ _ => rfl)
    refine (hc ⟨w, ok, F1, n, mu0, hgz1 F1 h1F, hgx⟩ _ rfl (fun b => by have := h1F b; have := c.one b; show F1 b ≤ 1; omega) (fun b hb => (c.blk b (by have := h1F b; have hb' : F1 b ≠ 0 := hb; omega)).1) hargs' hin').mono ?_
    rintro e' w' ⟨r, hout, hQ, v, mu', n', F', Fr, Fh, rfl, hn, hmu, hfin, hsum, hrep, hhp⟩
    obtain ⟨N, bh, br, rp, hk⟩ := hk r hout hQ
    have hz : Z Fr := pu_zero r v Fr hrep rp
    have hFh : Fh = F' := funext fun b => by have := hsum b; have := hz b; omega
    subst hFh
    let mun : Nat → Hdr := fun o => if o < s.nx then mu o else mu' (o - s.nx + n)
    let F3 : Foot := fun b => Fh b + F2 b
    have hdis : ∀ b, F2 b ≠ 0 → Fh b = 0 := fun b hb => by
      refine Classical.byContradiction fun hne => ?_
      have h4 := (c.blk b (by have := q3 b; omega)).1
      rcases (hfin.blk b hne).2 with h5 | h5
      · exact absurd h4 (Nat.not_lt.2 h5)
      · have := q3 b; have := c.one b; have h5' : F1 b ≠ 0 := h5; omega
    have st : Stp w w' F F3 := by
      refine ⟨hfin.os, hfin.tape, hfin.output, hfin.size, fun b hb h0 => hfin.old b hb (by have := h1F b; show F1 b = 0; omega), fun b hb h0 => ?_, fun b => ?_, fun b hb => ?_⟩
      · have h2 : F2 b = 0 := by have := q3 b; omega
        have h3 : Fh b = 0 := Classical.byContradiction fun hne => by
          rcases (hfin.blk b hne).2 with h5 | h5
          · exact absurd hb (Nat.not_lt.2 h5)
          · have := h1F b; have h5' : F1 b ≠ 0 := h5; omega
        show Fh b + F2 b = 0; omega
      · have h4 := hfin.one b; have h5 := hdis b; have h6 := q3 b; have h7 := c.one b
        show Fh b + F2 b ≤ 1
        by_cases h8 : F2 b = 0
        · omega
        · have := h5 h8; omega
      · have hb' : Fh b + F2 b ≠ 0 := hb
        by_cases h8 : F2 b = 0
        · exact (hfin.blk b (by omega)).1
        · exact Nat.lt_of_lt_of_le (c.blk b (by have := q3 b; omega)).1 hfin.size
    have hm : ∀ o, o < s.nx → mun o = mu o := fun o ho => by simp only [mun, ho, if_true]
    have mc : MC (sg ρ s.nx n) (n + N) (cx ⟨w, ok, F1, n, mu0, hgz1 F1 h1F, hgx⟩ w' mu' Fh n') (cx B w' mun F3 (s.nx + N)) := by
      refine ⟨⟨fun b hb => ?_, fun _ _ => rfl, Nat.le_refl _, fun _ _ => rfl⟩, rfl, fun o ho => ?_, fun o ho => ?_⟩
      · obtain ⟨h1, h2, h3⟩ := hb
        have h2' : Fh b = 0 := h2
        refine ⟨h1, ?_, ?_⟩
        · show Fh b + F2 b = 0
          have h9 : F2 b = 0 := by
            rcases h3 with h3 | h3 | h3
            · have := q3 b; have := h3.1; omega
            · refine Classical.byContradiction fun hne => absurd (c.blk b (by have := q3 b; omega)).1 (Nat.not_lt.2 h3)
            · have := q3 b; have := c.one b; have h3' : F1 b ≠ 0 := h3; omega
          omega
        · rcases h3 with h3 | h3 | h3
          · exact h3.2
          · exact .inr (.inl (Nat.le_trans c.size h3))
          · have h3' : F1 b ≠ 0 := h3
            exact .inr ((c.blk b (by have := h1F b; omega)).2)
      · show mun (sg ρ s.nx n o) = mu' o
        by_cases hon : o < n
        · obtain ⟨x, hx, hlt⟩ := fullR_at n fu o hon
          have := hmu o hon
          rw [this]
          simp only [sg, hx, mun, hlt, if_true, mu0]
        · have hl := keysR_at ρ ke o (by omega)
          simp only [sg, hl, mun]
          rw [if_neg (by omega)]
          congr 1; omega
      · show sg ρ s.nx n o < s.nx + N
        by_cases hon : o < n
        · obtain ⟨x, hx, hlt⟩ := fullR_at n fu o hon
          simp only [sg, hx]; omega
        · have hl := keysR_at ρ ke o (by omega)
          simp only [sg, hl]; omega
    have hx' := st.ext (B := B) (mu := mu) (mu' := mun) (n := s.nx) (n' := s.nx + N) (by omega) hm
    have hrest : RepH (cx B w' mun F3 (s.nx + N)) (takeH ρ s.hp hin) F2 := RepH.mono hx' _ _ q2 (fun b hb => hfin.old b (c.blk b (by have := q3 b; omega)).1 (by have := q3 b; have := c.one b; show F1 b = 0; omega))
    have hnew := RepH.app _ _ _ _ (mapH_rep mc hout Fh bh hhp) hrest
    have c' := c.step (s' := ⟨s.tm, mapH (sg ρ s.nx n) hout ++ takeH ρ s.hp hin, s.nx + N⟩) st (by simp) hm rfl hnew
    have hr' := mapN_rep mc r v Fr br hrep
    exact ⟨v, rfl, _, _, hk, mun, F3, c', by
      have : Fr = fun _ => 0 := funext hz
      rw [this] at hr'; exact hr'⟩
theorem y_callv {cl : Call} {f : Operand} (e : o.op = .call cl) (hcal : cl.callee = .value f) (hf0 : okO f = true) (hargs0 : cl.args.toList.all okO = true) (hr : Rel B s a w) (h : stp P (.call cl) s K) : Yields P o a w (Out B a K) := by
  obtain ⟨mu, F, c⟩ := hr
  simp only [stp, hcal] at h
  split at h
  · rename_i g caps hf
    have hx := c.ev f hf0
    rw [hf] at hx
    obtain ⟨cs, hv, hL⟩ := hx
    have hargs := repL_app _ _ _ _ (repL_map c cl.args.toList hargs0) hL
    obtain ⟨en, hc⟩ := callW_sound c hargs h
    have hrun : (execOp a.eval o).run P w = .ok (.enter g (cl.args.toList.map a.eval ++ cs).toArray) w := by
      simp only [execOp, e, resolve, hcal, hv, Deferred.ofValue, Sem.run_bind, Sem.run_pure, Result.andThen_ok, invoke]
      rw [show (#[] ++ cl.args.map a.eval ++ cs.toArray) = (cl.args.toList.map a.eval ++ cs).toArray by rw [← Array.toList_inj]; simp]
      exact en _ w
    unfold Yields
    rw [hrun]
    exact hc
  · exact h.elim
theorem y_invoke {cl : Call} {r : Operand} {name : String} (e : o.op = .call cl) (hcal : cl.callee = .invoke r name) (hf0 : okO r = true) (hargs0 : cl.args.toList.all okO = true) (hr : Rel B s a w) (h : stp P (.call cl) s K) : Yields P o a w (Out B a K) := by
  obtain ⟨mu, F, c⟩ := hr
  simp only [stp, hcal] at h
  split at h
  · rename_i t v hf
    obtain ⟨f, v', hm, h⟩ := h
    have hx := c.ev r hf0
    rw [hf] at hx
    obtain ⟨u, hv, hu0⟩ := hx
    obtain ⟨u', hu, hm⟩ := hm _ u hu0
    have hargs : RepL (cx B w mu F s.nx) (v' :: cl.args.toList.map s.ev) (u' :: cl.args.toList.map a.eval) (fun _ => 0) := ⟨u', _, _, _, rfl, hu, repL_map c _ hargs0, fun _ => rfl⟩
    obtain ⟨en, hc⟩ := callW_sound c hargs h
    have hrun : (execOp a.eval o).run P w = .ok (.enter f (u' :: cl.args.toList.map a.eval).toArray) w := by
      simp only [execOp, e, resolve, hcal, hv, Sem.run_bind, Sem.run_pure, Result.andThen_ok, invoke]
      have h1 := hm (cl.args.map a.eval) w
      have e1 : (#[Value.iface t u] ++ cl.args.map a.eval)[0]? = some (.iface t u) := by rw [Array.getElem?_append_left (by simp)]; rfl
      rw [e1]
      show (callMethod _ _ _).run P w = _
      rw [show (#[Value.iface t u] ++ cl.args.map a.eval).extract 1 (#[Value.iface t u] ++ cl.args.map a.eval).size = cl.args.map a.eval by rw [← Array.toList_inj]; simp; exact List.take_of_length_le (by simp)]
      rw [h1]
      congr 2
      rw [← Array.toList_inj]; simp
    unfold Yields
    rw [hrun]
    exact hc
  · exact h.elim
end Go.Av
