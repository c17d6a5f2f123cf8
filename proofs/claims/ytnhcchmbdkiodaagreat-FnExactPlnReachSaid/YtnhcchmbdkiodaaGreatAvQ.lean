/- Engine, part 18: regions that draw their order, walked along a tree of orders. -/
import Derived.Test.YtnhcchmbdkiodaaGreatAvP
set_option linter.unusedVariables false
set_option linter.unusedSimpArgs false
set_option autoImplicit false
namespace Go.Av
variable {P : Program}

/-- The same state, as far as it is asked. -/
structure Eqv (s s' : St) : Prop where
  hp : s'.hp = s.hp
  nx : s'.nx = s.nx
  tm : ∀ t, gtm s'.tm t = gtm s.tm t
theorem Eqv.refl (s : St) : Eqv s s := ⟨rfl, rfl, fun _ => rfl⟩
theorem Eqv.trans {a b c : St} (h : Eqv a b) (k : Eqv b c) : Eqv a c := ⟨k.hp.trans h.hp, k.nx.trans h.nx, fun t => (k.tm t).trans (h.tm t)⟩
theorem Eqv.symm {a b : St} (h : Eqv a b) : Eqv b a := ⟨h.hp.symm, h.nx.symm, fun t => (h.tm t).symm⟩
theorem gtm_put (s : St) (d : Tmp) (v : AV) (t : Nat) : gtm (s.put (some d) v).tm t = if d = t then v else gtm s.tm t := by
  simp only [St.put, gtm]
  by_cases e : d = t
  · subst e; rw [if_pos rfl, show Nat.beq d d = true from Nat.beq_refl d, cond_true]
  · rw [if_neg e, show Nat.beq d t = false from by cases hb : Nat.beq d t with | false => rfl | true => exact absurd (Nat.eq_of_beq_eq_true hb) e, cond_false]
theorem Eqv.put {s s' : St} (h : Eqv s s') (d : Option Tmp) (v : AV) : Eqv (s.put d v) (s'.put d v) := by
  cases d with
  | none => exact h
  | some d => exact ⟨h.hp, h.nx, fun t => by rw [gtm_put, gtm_put, h.tm t]⟩
theorem put_comm (s : St) {x y : Option Tmp} (v u : AV) (h : ∀ d, x = some d → y ≠ some d) : Eqv ((s.put x v).put y u) ((s.put y u).put x v) := by
  cases x with
  | none => exact Eqv.refl _
  | some d =>
    cases y with
    | none => exact Eqv.refl _
    | some e =>
      have hne : e ≠ d := fun q => h d rfl (by rw [q])
      refine ⟨rfl, rfl, fun t => ?_⟩
      rw [gtm_put, gtm_put, gtm_put, gtm_put]
      by_cases h1 : d = t
      · subst h1; rw [if_pos rfl, if_neg hne, if_pos rfl]
      · rw [if_neg h1, if_neg h1]
theorem put_known {s : St} {t : Nat} {b : Bool} (h : gtm s.tm t = .bool b) : Eqv s (s.put (some t) (.bool b)) := ⟨rfl, rfl, fun u => by
  rw [gtm_put]
  by_cases e : t = u
  · subst e; rw [if_pos rfl, h]
  · rw [if_neg e]⟩
theorem Rel.eqv [Known P] {B : Base P} {s s' : St} {a : Act} {w : World} (h : Rel B s a w) (e : Eqv s s') : Rel B s' a w := by
  obtain ⟨mu, F, c⟩ := h
  obtain ⟨tm, hp, nx⟩ := s
  obtain ⟨tm', hp', nx'⟩ := s'
  obtain ⟨rfl, rfl, e⟩ := e
  exact ⟨mu, F, c.defers, c.nx, c.mub, c.os, c.tape, c.output, c.size, c.old, c.one, c.blk, fun t => by have := c.tm t; rw [← e t] at this; exact this, c.hp⟩
def EqI (K : St → Prop) : Prop := ∀ s s', Eqv s s' → K s → K s'

/-- Whether an operation is wanted. -/
def gvl (ops : List Oper) (s : St) (o : Oper) : Option Bool := match o.guard with
  | none => some true
  | some (j, x) => match dstOf ops j with
    | none => none
    | some t => match gtm s.tm t with
      | .tt => some x
      | .ff => some (!x)
      | .bool b => some (b == x)
      | .tup _ => some false
      | _ => none
def aOp (P : Program) [Known P] (ops : List Oper) (o : Oper) (s : St) (K : St → Prop) : Prop := match gvl ops s o with
  | none => False
  | some true => stp P o.op s (fun s v => K (s.put o.dst v))
  | some false => K (s.put o.dst (.tup []))
theorem looks_ev {ops : Array Oper} {o : Oper} {s s' : St} (h : ∀ t ∈ o.looksAt ops, gtm s'.tm t = gtm s.tm t) : ∀ x ∈ o.op.operands, s'.ev x = s.ev x := by
  intro x hx
  cases x with
  | tmp t => exact h t (List.mem_append_left _ (List.mem_filterMap.2 ⟨.tmp t, by simpa using hx, rfl⟩))
  | _ => rfl
theorem looks_gvl {ops : Array Oper} {o : Oper} {s s' : St} (h : ∀ t ∈ o.looksAt ops, gtm s'.tm t = gtm s.tm t) : gvl ops.toList s' o = gvl ops.toList s o := by
  unfold gvl
  cases hg : o.guard with
  | none => rfl
  | some gx =>
    obtain ⟨j, x⟩ := gx
    simp only
    cases hd : dstOf ops.toList j with
    | none => rfl
    | some t =>
      have hd' : ((ops[j]?).bind (·.dst)) = some t := by rw [dstOf_eq] at hd; simpa using hd
      simp only [h t (List.mem_append_right _ (by rw [hg]; simp [hd']))]
theorem aOp_congr [Known P] {ops : Array Oper} {o : Oper} {s s' : St} {K K' : St → Prop} (ht : ∀ t ∈ o.looksAt ops, gtm s'.tm t = gtm s.tm t) (hh : s'.hp = s.hp) (hn : s'.nx = s.nx)
    (hK : ∀ hp nx v, K ((⟨s.tm, hp, nx⟩ : St).put o.dst v) → K' ((⟨s'.tm, hp, nx⟩ : St).put o.dst v)) (h : aOp P ops.toList o s K) : aOp P ops.toList o s' K' := by
  obtain ⟨tm, hp, nx⟩ := s
  obtain ⟨tm', hp', nx'⟩ := s'
  simp only at hh hn
  subst hh hn
  unfold aOp at h ⊢
  rw [looks_gvl ht]
  split at h
  · exact h.elim
  · exact stp_congr (looks_ev ht) (fun _ _ _ hk => hK _ _ _ hk) h
  · exact hK _ _ _ h
theorem aOp_mono [Known P] {ops : Array Oper} {o : Oper} {s : St} {K K' : St → Prop} (hK : ∀ s, K s → K' s) (h : aOp P ops.toList o s K) : aOp P ops.toList o s K' := aOp_congr (fun _ _ => rfl) rfl rfl (fun _ _ _ hk => hK _ hk) h
theorem aOp_eqv [Known P] {ops : Array Oper} {o : Oper} {s s' : St} {K : St → Prop} (hi : EqI K) (e : Eqv s s') (h : aOp P ops.toList o s K) : aOp P ops.toList o s' K :=
  aOp_congr (fun t _ => e.tm t) e.hp e.nx (fun hp nx v hk => hi _ _ (Eqv.put (s := ⟨s.tm, hp, nx⟩) (s' := ⟨s'.tm, hp, nx⟩) ⟨rfl, rfl, e.tm⟩ _ _) hk) h

/-- It yields v, now and later. -/
def PY (P : Program) [Known P] (ops : Array Oper) (o : Oper) (s : St) (v : AV) : Prop := ∀ s', (∀ t ∈ o.looksAt ops, gtm s'.tm t = gtm s.tm t) → ∀ K : St → Prop, K (s'.put o.dst v) → aOp P ops.toList o s' K
theorem PY.of [Known P] {ops : Array Oper} {o : Oper} {s s' : St} {v : AV} (h : PY P ops o s v) (e : ∀ t ∈ o.looksAt ops, gtm s'.tm t = gtm s.tm t) : PY P ops o s' v := fun s2 e2 => h s2 (fun t ht => (e2 t ht).trans (e t ht))
theorem looks_put {ops : Array Oper} {o : Oper} {s : St} {d : Option Tmp} {v : AV} (h : ∀ x, d = some x → x ∉ o.looksAt ops) : ∀ t ∈ o.looksAt ops, gtm (s.put d v).tm t = gtm s.tm t := by
  intro t ht
  cases d with
  | none => rfl
  | some d => rw [gtm_put, if_neg (fun e => h d rfl (by rw [e]; exact ht))]

variable {md : Region.Mode}
def wAny (P : Program) [Known P] (md : Region.Mode) (ops : Array Oper) (k : St → Prop) : Nat → Array Bool → St → Prop
  | 0, listed, s => Region.ready md ops listed = [] ∧ k s
  | f + 1, listed, s => (Region.ready md ops listed = [] → k s) ∧ ∀ i ∈ Region.ready md ops listed, ∀ o, ops[i]? = some o → aOp P ops.toList o s (wAny P md ops k f (listed.setIfInBounds i true))
theorem wAny_eqv [Known P] {ops : Array Oper} {k : St → Prop} (hk : EqI k) : ∀ (f : Nat) (listed : Array Bool), EqI (wAny P md ops k f listed)
  | 0, listed => fun s s' e h => ⟨h.1, hk s s' e h.2⟩
  | f + 1, listed => fun s s' e h => ⟨fun hr => hk s s' e (h.1 hr), fun i hi o ho => aOp_eqv (wAny_eqv hk f _) e (h.2 i hi o ho)⟩
theorem aOp_put [Known P] {ops : Array Oper} {oi oj : Oper} {s : St} {v : AV} {K : St → Prop} (hap : oi.apart ops oj = true) (hy : PY P ops oi s v) (hK : EqI K) (h : aOp P ops.toList oj (s.put oi.dst v) K) :
    aOp P ops.toList oj s (fun s1 => PY P ops oi s1 v ∧ K (s1.put oi.dst v)) := by
  obtain ⟨h1, h2, h3⟩ := Oper.apart_spec hap
  refine aOp_congr (s := s.put oi.dst v) (fun t ht => (looks_put h1 t ht).symm) ?_ ?_ (fun hp nx u hk => ⟨?_, ?_⟩) h
  · cases oi.dst <;> rfl
  · cases oi.dst <;> rfl
  · exact hy.of (fun t ht => looks_put (s := ⟨s.tm, hp, nx⟩) h3 t ht)
  · refine hK _ _ ?_ hk
    have : (⟨(s.put oi.dst v).tm, hp, nx⟩ : St) = (⟨s.tm, hp, nx⟩ : St).put oi.dst v := by cases oi.dst <;> rfl
    rw [this]
    exact put_comm _ v u h2
theorem wAny_first [Known P] {ops : Array Oper} {k : St → Prop} (hk : EqI k) {i : Nat} {oi : Oper} {v : AV} (hi : ops[i]? = some oi) :
    ∀ (fuel : Nat) (listed : Array Bool) (s : St),
      (∀ j oj, ops[j]? = some oj → j ≠ i → listed.getD j true = false → (∀ e ∈ oj.after, Region.binds md e = true → e.on ≠ i) → oi.apart ops oj = true) →
      i ∈ Region.ready md ops listed → PY P ops oi s v →
      wAny P md ops k fuel (listed.setIfInBounds i true) (s.put oi.dst v) → wAny P md ops k (fuel + 1) listed s := by
  intro fuel
  induction fuel with
  | zero =>
    intro listed s _ hr hy H
    refine ⟨fun h => (by rw [h] at hr; cases hr), fun j hj o ho => ?_⟩
    by_cases hji : j = i
    · subst hji
      obtain rfl : oi = o := Option.some.inj (hi.symm.trans ho)
      exact hy s (fun _ _ => rfl) _ H
    · have := ready_mono hj hji
      rw [H.1] at this
      cases this
  | succ fuel ih =>
    intro listed s hfree hr hy H
    refine ⟨fun h => (by rw [h] at hr; cases hr), fun j hj oj hoj => ?_⟩
    by_cases hji : j = i
    · subst hji
      obtain rfl : oi = oj := Option.some.inj (hi.symm.trans hoj)
      exact hy s (fun _ _ => rfl) _ H
    · have h1 := H.2 j (ready_mono hj hji) oj hoj
      obtain ⟨hjun, oj', hoj', hall⟩ := mem_ready.1 hj
      obtain rfl : oj = oj' := Option.some.inj (hoj.symm.trans hoj')
      have hnot : ∀ e ∈ oj.after, Region.binds md e = true → e.on ≠ i := fun e he hb heq => by
        have h1 := hall e he hb
        have h0 := (mem_ready.1 hr).1
        rw [heq] at h1
        rcases Nat.lt_or_ge i listed.size with h' | h'
        · simp [h'] at h0 h1; rw [h0] at h1; cases h1
        · simp [Array.getElem?_eq_none h'] at h1
      have h2 := aOp_put (hfree j oj hoj hji hjun hnot) hy (wAny_eqv hk _ _) h1
      have hfree' : ∀ k ok, ops[k]? = some ok → k ≠ i → (listed.setIfInBounds j true).getD k true = false →
          (∀ e ∈ ok.after, Region.binds md e = true → e.on ≠ i) → oi.apart ops ok = true := fun k ok hk hki hun hno => by
        refine hfree k ok hk hki ?_ hno
        by_cases hjk : j = k
        · subst hjk; exact hjun
        · rw [getD_set_ne true hjk] at hun; exact hun
      refine aOp_mono (fun s' h3 => ih (listed.setIfInBounds j true) s' hfree' (ready_mono hr (Ne.symm hji)) h3.1 ?_) h2
      rw [Array.setIfInBounds_comm _ _ hji]
      exact h3.2

theorem stp_mono [Known P] {op : Op} {s : St} {K K' : St → AV → Prop} (hK : ∀ s v, K s v → K' s v) (h : stp P op s K) : stp P op s K' := by
  obtain ⟨tm, hp, nx⟩ := s
  exact stp_congr (fun _ _ => rfl) (fun _ _ _ hk => hK _ _ hk) h
/-! ### From states to memory -/
theorem gvl_real [Known P] {B : Base P} {ops : Array Oper} {s : St} {a : Act} {w : World} {o : Oper} {g : Bool} {n : Nat} (hfit : ops.toList.all (fitOp n) = true) (hs : a.tmps.size = n) (hr : Rel B s a w) (h : gvl ops.toList s o = some g) :
    Region.wanted o (yielded ops a.tmps) = g := by
  unfold gvl at h
  split at h
  · rename_i hg
    obtain rfl := Option.some.inj h
    unfold Region.wanted; rw [hg]
  · rename_i j x hg
    split at h
    · cases h
    · rename_i t ht
      rw [dstOf_eq] at ht
      have hd' : ((ops[j]?).bind (·.dst)) = some t := by simpa using ht
      have htl : t < a.tmps.size := by
        rw [hs]
        cases hj : ops[j]? with
        | none => rw [hj] at hd'; simp at hd'
        | some oj =>
          rw [hj] at hd'
          have hm : oj ∈ ops.toList := by
            obtain ⟨hi, he⟩ := Array.getElem?_eq_some_iff.1 hj
            exact he ▸ Array.getElem_mem_toList hi
          have := List.all_eq_true.1 hfit oj hm
          unfold fitOp at this
          have hd'' : oj.dst = some t := by simpa using hd'
          rw [hd'', Bool.and_eq_true] at this; exact Nat.le_of_ble_eq_true this.1
      obtain ⟨mu, F, c⟩ := hr
      have htm := c.tm t
      split at h
      · rename_i hv
        rw [hv] at htm
        rw [wanted_of hd' htl htm.1 o hg]
        obtain rfl := Option.some.inj h
        cases x <;> rfl
      · rename_i hv
        rw [hv] at htm
        rw [wanted_of hd' htl htm.1 o hg]
        obtain rfl := Option.some.inj h
        cases x <;> rfl
      · rename_i b hv
        rw [hv] at htm
        rw [wanted_of hd' htl htm.1 o hg]
        exact Option.some.inj h
      · rename_i l hv
        rw [hv] at htm
        obtain ⟨cs, htm, _⟩ := htm
        rw [wanted_tup hd' htl htm o hg]
        exact Option.some.inj h
      · cases h
theorem wAny_sound [Known P] {B : Base P} {ops : Array Oper} {Q : Exit → Act → World → Prop} {n : Nat} {k : St → Prop} (hQ : ∀ s a w, a.tmps.size = n → Rel B s a w → k s → Q .normal a w) (hfit : ops.toList.all (fitOp n) = true) :
    ∀ (f : Nat) (listed : Array Bool) (s : St) (a : Act) (w : World), a.tmps.size = n → Rel B s a w → wAny P md ops k f listed s → wpAny P md ops Q f listed a w
  | 0, listed, s, a, w, hs, hr, h => ⟨h.1, hQ s a w hs hr h.2⟩
  | f + 1, listed, s, a, w, hs, hr, h => by
    refine ⟨fun he => hQ s a w hs hr (h.1 he), fun i hi => ?_⟩
    obtain ⟨_, o, ho, _⟩ := mem_ready.1 hi
    have hk := h.2 i hi o ho
    have hmem : o ∈ ops.toList := by
      obtain ⟨hi, he⟩ := Array.getElem?_eq_some_iff.1 ho
      exact he ▸ Array.getElem_mem_toList hi
    have hfo := List.all_eq_true.1 hfit o hmem
    have hd : ∀ t, o.dst = some t → t < a.tmps.size := fun t ht => by
      unfold fitOp at hfo; rw [ht, Bool.and_eq_true] at hfo; rw [hs]; exact Nat.le_of_ble_eq_true hfo.1
    have hok : okP o.op = true := by unfold fitOp at hfo; rw [Bool.and_eq_true] at hfo; exact hfo.2
    unfold wpOp
    simp only [ho]
    unfold aOp at hk
    split at hk
    · exact hk.elim
    · rename_i hg
      rw [gvl_real hfit hs hr hg, if_pos rfl]
      exact .inl ((stp_sound hok hk hr).wp fun v w' ⟨s1, v1, hk1, hrv⟩ => wAny_sound hQ hfit f _ _ _ w' (by rw [put_size]; exact hs) (hrv.put o.dst hd) hk1)
    · rename_i hg
      rw [gvl_real hfit hs hr hg, if_neg (by simp)]
      exact wAny_sound hQ hfit f _ _ _ w (by rw [put_size]; exact hs) (hr.skip.put o.dst hd) hk

/-! ### Trees of orders -/
/-- 'take': this one first, it is apart from all others; 'alt': one of these first. -/
inductive Tr where
  | done
  | take (i : Nat) (t : Tr)
  | alt (i : Nat) (t r : Tr)
  | stop
def alts : Tr → List Nat
  | .alt i _ r => i :: alts r
  | _ => []
def okT (md : Region.Mode) (ops : Array Oper) : Bool → Tr → Nat → Array Bool → Bool
  | false, .done, _, listed => (Region.ready md ops listed).isEmpty
  | false, .take i t, f + 1, listed => (Region.ready md ops listed).contains i && Region.free md ops listed i && okT md ops false t f (listed.setIfInBounds i true)
  | false, .alt i t r, f + 1, listed => !(Region.ready md ops listed).isEmpty && (Region.ready md ops listed).all (fun j => (i :: alts r).contains j) && okT md ops false t f (listed.setIfInBounds i true) && okT md ops true r (f + 1) listed
  | true, .alt i t r, f + 1, listed => okT md ops false t f (listed.setIfInBounds i true) && okT md ops true r (f + 1) listed
  | true, .stop, _, _ => true
  | _, _, _, _ => false
/-- One operation, its test decided both ways. -/
def gOp (ops : List Oper) (o : Oper) (s : St) (go : Bool → St → Prop) : Prop := match o.guard with
  | none => go true s
  | some (j, x) => match dstOf ops j with
    | none => False
    | some t => match gtm s.tm t with
      | .tt => go x s
      | .ff => go (!x) s
      | .bool b => If b (go x (s.put (some t) (.bool true))) (go (!x) (s.put (some t) (.bool false)))
      | .tup _ => go false s
      | _ => False
def goP (P : Program) [Known P] (o : Oper) (K : St → Prop) (g : Bool) (s : St) : Prop := match g with
  | true => pst P o.op s (fun v => K (s.put o.dst v))
  | false => K (s.put o.dst (.tup []))
def goA (P : Program) [Known P] (o : Oper) (K : St → Prop) (g : Bool) (s : St) : Prop := match g with
  | true => stp P o.op s (fun s v => K (s.put o.dst v))
  | false => K (s.put o.dst (.tup []))
def wtr (P : Program) [Known P] (ops : List Oper) (k : St → Prop) : Tr → St → Prop
  | .done, s => k s
  | .take i t, s => match ops[i]? with
    | some o => gOp ops o s (goP P o (wtr P ops k t))
    | none => False
  | .alt i t r, s => (match ops[i]? with
    | some o => gOp ops o s (goA P o (wtr P ops k t))
    | none => False) ∧ wtr P ops k r s
  | .stop, _ => True
theorem gOp_sound {ops : List Oper} {o : Oper} {s : St} {go : Bool → St → Prop} (h : gOp ops o s go) : ∃ g s', gvl ops s o = some g ∧ Eqv s s' ∧ go g s' := by
  unfold gOp at h
  split at h
  · rename_i hg
    exact ⟨true, s, by unfold gvl; rw [hg], Eqv.refl _, h⟩
  · rename_i j x hg
    split at h
    · exact h.elim
    · rename_i t ht
      split at h
      · rename_i hv; exact ⟨x, s, by unfold gvl; simp only [hg, ht, hv], Eqv.refl _, h⟩
      · rename_i hv; exact ⟨!x, s, by unfold gvl; simp only [hg, ht, hv], Eqv.refl _, h⟩
      · rename_i b hv
        cases b with
        | true => exact ⟨x, _, by unfold gvl; simp only [hg, ht, hv]; cases x <;> rfl, put_known hv, h.t rfl⟩
        | false => exact ⟨!x, _, by unfold gvl; simp only [hg, ht, hv]; cases x <;> rfl, put_known hv, h.f rfl⟩
      · rename_i l hv; exact ⟨false, s, by unfold gvl; simp only [hg, ht, hv], Eqv.refl _, h⟩
      · exact h.elim
theorem goP_py [Known P] {ops : Array Oper} {o : Oper} {s : St} {K : St → Prop} {g : Bool} (hg : gvl ops.toList s o = some g) (h : goP P o K g s) : ∃ v, PY P ops o s v ∧ K (s.put o.dst v) := by
  cases g with
  | true =>
    obtain ⟨v, h1, h2⟩ := pst_out h
    refine ⟨v, fun s' e K' hk => ?_, h1⟩
    unfold aOp
    rw [looks_gvl e, hg]
    exact h2 s' _ (looks_ev e) hk
  | false =>
    refine ⟨.tup [], fun s' e K' hk => ?_, h⟩
    unfold aOp
    rw [looks_gvl e, hg]
    exact hk
theorem wtr_sound [Known P] {ops : Array Oper} {k k' : St → Prop} (hk : EqI k') (hkk : ∀ s, k s → k' s) : ∀ (T : Tr) (f : Nat) (listed : Array Bool) (s : St), wtr P ops.toList k T s →
    (okT md ops false T f listed = true → wAny P md ops k' f listed s) ∧
    (okT md ops true T (f + 1) listed = true → ∀ j ∈ alts T, ∀ o, ops[j]? = some o → aOp P ops.toList o s (wAny P md ops k' f (listed.setIfInBounds j true)))
  | .done, f, listed, s, h => by
    refine ⟨fun ho => ?_, fun _ j hj => by simp [alts] at hj⟩
    have hr : Region.ready md ops listed = [] := by unfold okT at ho; simpa using ho
    cases f with
    | zero => exact ⟨hr, hkk _ h⟩
    | succ f => exact ⟨fun _ => hkk _ h, fun i hi => by rw [hr] at hi; cases hi⟩
  | .stop, f, listed, s, h => ⟨fun ho => by simp [okT] at ho, fun _ j hj => by simp [alts] at hj⟩
  | .take i t, f, listed, s, h => by
    refine ⟨fun ho => ?_, fun _ j hj => by simp [alts] at hj⟩
    cases f with
    | zero => simp [okT] at ho
    | succ f =>
      simp only [okT, Bool.and_eq_true] at ho
      obtain ⟨⟨h1, h2⟩, h3⟩ := ho
      simp only [wtr] at h
      split at h
      · rename_i o hoi
        have hoi' : ops[i]? = some o := by simpa using hoi
        obtain ⟨g, s', hg, he, hgo⟩ := gOp_sound h
        have hg' : gvl ops.toList s' o = some g := by rw [looks_gvl (ops := ops) (fun t _ => he.tm t)]; exact hg
        obtain ⟨v, hy, hK⟩ := goP_py hg' hgo
        have := (wtr_sound hk hkk t f (listed.setIfInBounds i true) _ hK).1 h3
        exact wAny_eqv hk _ _ _ _ he.symm (wAny_first hk hoi' f listed s' (Region.free_spec hoi' h2) (by simpa using h1) hy this)
      · exact h.elim
  | .alt i t r, f, listed, s, h => by
    simp only [wtr] at h
    obtain ⟨h1, h2⟩ := h
    have one : ∀ f, okT md ops false t f (listed.setIfInBounds i true) = true → ∀ o, ops[i]? = some o → aOp P ops.toList o s (wAny P md ops k' f (listed.setIfInBounds i true)) := fun f ho o hoi => by
      have : ops.toList[i]? = some o := by simpa using hoi
      rw [this] at h1
      obtain ⟨g, s', hg, he, hgo⟩ := gOp_sound h1
      have hg' : gvl ops.toList s' o = some g := by rw [looks_gvl (ops := ops) (fun t _ => he.tm t)]; exact hg
      refine aOp_eqv (wAny_eqv hk _ _) he.symm ?_
      unfold aOp
      rw [hg']
      cases g with
      | true => exact stp_mono (fun _ _ hk' => (wtr_sound hk hkk t f _ _ hk').1 ho) hgo
      | false => exact (wtr_sound hk hkk t f _ _ hgo).1 ho
    refine ⟨fun ho => ?_, fun ho j hj o hoj => ?_⟩
    · cases f with
      | zero => simp [okT] at ho
      | succ f =>
        simp only [okT, Bool.and_eq_true] at ho
        obtain ⟨⟨⟨h3, h4⟩, h5⟩, h6⟩ := ho
        refine ⟨fun hr => by rw [hr] at h3; simp at h3, fun j hj o hoj => ?_⟩
        have := List.all_eq_true.1 h4 j hj
        simp only [List.contains_eq_mem, List.mem_cons, decide_eq_true_eq] at this
        rcases this with rfl | hm
        · exact one f h5 o hoj
        · exact (wtr_sound hk hkk r f listed s h2).2 h6 j hm o hoj
    · simp only [okT, Bool.and_eq_true] at ho
      rcases List.mem_cons.1 hj with rfl | hm
      · exact one f ho.1 o hoj
      · exact (wtr_sound hk hkk r f listed s h2).2 ho.2 j hm o hoj
theorem region_sound [Known P] {B : Base P} {ops : Array Oper} {Q : Exit → Act → World → Prop} {n : Nat} {k : St → Prop} {id : Nat} (hQ : ∀ s a w, a.tmps.size = n → Rel B s a w → k s → Q .normal a w) (hfit : ops.toList.all (fitOp n) = true)
    (hm : P.follows .mixedOrders = true) (T : Tr) (hT : okT .any ops false T ops.size (Array.replicate ops.size false) = true) {s : St} {a : Act} {w : World} (hs : a.tmps.size = n) (hr : Rel B s a { w with drawn := w.drawn + 1 }) (h : wtr P ops.toList k T s) :
    (Code.region id ops true).wp P Q a w := by
  refine wp_region_any hm ?_
  have hk : EqI (fun s => ∃ s', Eqv s s' ∧ k s') := fun s s' e ⟨s2, e2, h2⟩ => ⟨s2, e.symm.trans e2, h2⟩
  exact wAny_sound (fun s a w h1 h2 ⟨s', e, h3⟩ => hQ s' a w h1 (h2.eqv e) h3) hfit _ _ s a _ hs hr ((wtr_sound hk (fun s h => ⟨s, Eqv.refl _, h⟩) T _ _ s h).1 hT)
theorem Rel.drawn [Known P] {B : Base P} {s : St} {a : Act} {w : World} (h : Rel B s a w) (d : Nat) : Rel B s a { w with drawn := d } := by
  obtain ⟨mu, F, c⟩ := h
  have hx : Ext (cx B w mu F s.nx) (cx B { w with drawn := d } mu F s.nx) := ⟨fun _ h => h, fun _ _ => rfl, Nat.le_refl _, fun _ _ => rfl⟩
  exact ⟨mu, F, c.defers, c.nx, c.mub, c.os, c.tape, c.output, c.size, c.old, c.one, c.blk, fun t => (c.tm t).mono hx _ _ _ (fun _ _ => rfl), RepH.mono hx _ _ c.hp (fun _ _ => rfl)⟩
end Go.Av
