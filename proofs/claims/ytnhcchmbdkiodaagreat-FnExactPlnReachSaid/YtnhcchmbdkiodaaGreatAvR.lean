/- Engine, part 19: code. -/
import Derived.Test.YtnhcchmbdkiodaaGreatAvQb
set_option linter.unusedVariables false
set_option linter.unusedSimpArgs false
set_option autoImplicit false
namespace Go.Av
variable {P : Program}

/-! ### Code -/
/-- The second state says no more than the first. -/
def Le (P : Program) [Known P] (n : Nat) (s S : St) : Prop := ∀ (B : Base P) a w, B.n = n → Rel B s a w → Rel B S a w
/-- A loop: what holds at the head of each round, named by x; m falls. -/
inductive LoopW (P : Program) [Known P] (n : Nat) (body : (Exit → St → Prop) → St → Prop) (Q : Exit → St → Prop) (s : St) : Prop where
  | mk (X : Type) (S : X → St) (m : X → Nat) (x : X) (h : Le P n s (S x))
      (step : ∀ x, body (fun e s' => match e with | .normal => ∃ x', m x' < m x ∧ Le P n s' (S x') | e => Q e s') (S x))
def wpc (P : Program) [Known P] (n : Nat) : Code → (Exit → St → Prop) → St → Prop
  | .skip, Q, s => Q .normal s
  | .seq a b, Q, s => wpc P n a (fun e s => match e with | .normal => wpc P n b Q s | e => Q e s) s
  | .cond c t e, Q, s => match s.ev c with
    | .tt => wpc P n t Q s
    | .ff => wpc P n e Q s
    | .bool b => If b (wpc P n t Q s) (wpc P n e Q s)
    | _ => False
  | .block id c, Q, s => wpc P n c (fun e s => match e with | .exit i => (match Nat.beq i id with | true => Q .normal s | false => Q (.exit i) s) | e => Q e s) s
  | .loop c, Q, s => LoopW P n (wpc P n c) Q s
  | .exit id, Q, s => Q (.exit id) s
  | .ret, Q, s => Q .ret s
  | .region _ ops false, Q, s => wops P ops.toList ops.toList s (Q .normal)
  | .region _ ops true, Q, s => P.follows .mixedOrders = true ∧ ((∃ T, okT .any ops false T ops.size (Array.replicate ops.size false) = true ∧ wtr P ops.toList (Q .normal) T s) ∨
    ∃ T, okH .any ops T ops.size (Array.replicate ops.size false) = true ∧ wth P ops.toList (Q .normal) T s)
  | _, _, _ => False
def fitC (n : Nat) : Code → Bool
  | .seq a b => fitC n a && fitC n b
  | .cond c a b => okO c && fitC n a && fitC n b
  | .block _ c => fitC n c
  | .loop c => fitC n c
  | .region _ ops _ => ops.toList.all (fitOp n)
  | _ => true
/-- What is asked in the end, said of real states. -/
def Post [Known P] (B : Base P) (n : Nat) (Q : Exit → St → Prop) (e : Exit) (a : Act) (w : World) : Prop := a.tmps.size = n ∧ ∃ s, Rel B s a w ∧ Q e s
theorem wpc_sound [Known P] {B : Base P} {n : Nat} : ∀ (c : Code) (Q : Exit → St → Prop) (s : St) (a : Act) (w : World), fitC n c = true → a.tmps.size = n → Rel B s a w → wpc P B.n c Q s → c.wp P (Post B n Q) a w
  | .skip, Q, s, a, w, hf, hs, hr, h => wp_skip ⟨hs, s, hr, h⟩
  | .seq x y, Q, s, a, w, hf, hs, hr, h => by
    simp only [fitC, Bool.and_eq_true] at hf
    refine wp_seq (wp_mono (wpc_sound x _ s a w hf.1 hs hr h) ?_)
    rintro e a' w' ⟨hs', s', hr', hq⟩
    cases e with
    | normal => exact wpc_sound y Q s' a' w' hf.2 hs' hr' hq
    | _ => exact ⟨hs', s', hr', hq⟩
  | .cond c x y, Q, s, a, w, hf, hs, hr, h => by
    simp only [fitC, Bool.and_eq_true] at hf
    obtain ⟨⟨hok, hf1⟩, hf2⟩ := hf
    simp only [wpc] at h
    have hr2 := hr
    obtain ⟨mu, F, cc⟩ := hr
    have hc := cc.ev c hok
    split at h <;> rename_i hv
    · rw [hv] at hc; exact wp_cond_true hc.1 (wpc_sound x Q s a w hf1 hs hr2 h)
    · rw [hv] at hc; exact wp_cond_false hc.1 (wpc_sound y Q s a w hf2 hs hr2 h)
    · rename_i b
      rw [hv] at hc
      cases b with
      | true => exact wp_cond_true hc.1 (wpc_sound x Q s a w hf1 hs hr2 (h.t rfl))
      | false => exact wp_cond_false hc.1 (wpc_sound y Q s a w hf2 hs hr2 (h.f rfl))
    · exact h.elim
  | .block id c, Q, s, a, w, hf, hs, hr, h => by
    refine wp_block (wp_mono (wpc_sound c _ s a w hf hs hr h) ?_)
    rintro e a' w' ⟨hs', s', hr', hq⟩
    cases e with
    | exit i =>
      simp only [Exit.inBlock]
      simp only at hq
      cases hb : Nat.beq i id with
      | true => rw [hb] at hq; rw [if_pos (Nat.eq_of_beq_eq_true hb)]; exact ⟨hs', s', hr', hq⟩
      | false => rw [hb] at hq; rw [if_neg (fun e => by rw [e, Nat.beq_refl] at hb; cases hb)]; exact ⟨hs', s', hr', hq⟩
    | _ => exact ⟨hs', s', hr', hq⟩
  | .loop c, Q, s, a, w, hf, hs, hr, h => by
    obtain ⟨X, S, m, x, h0, step⟩ := h
    have key : ∀ (k : Nat) (x : X) (a : Act) (w : World), m x = k → a.tmps.size = n → Rel B (S x) a w → ∀ (b : Frame) (kk : List Item) (cs : List Frame), ∃ e a' w', Post B n Q e a' w' ∧ Arrives P (lone (b.at a (.code c :: .inLoop c :: kk)) cs w) b kk cs e a' w' := by
      intro k
      induction k using Nat.strongRecOn with
      | _ k ih =>
        intro x a w hk hs hr b kk cs
        obtain ⟨e, a₁, w₁, ⟨hs1, s1, hr1, hq⟩, harr⟩ := wpc_sound c _ (S x) a w hf hs hr (step x) b (.inLoop c :: kk) cs
        cases e with
        | normal =>
          obtain ⟨x', hlt, hle⟩ := hq
          obtain ⟨e₂, a₂, w₂, hq₂, harr₂⟩ := ih (m x') (hk ▸ hlt) x' a₁ w₁ rfl hs1 (hle _ _ _ rfl hr1) b kk cs
          exact ⟨e₂, a₂, w₂, hq₂, .of_steps (Steps.trans harr (.one step_inLoop)) harr₂⟩
        | exit id => exact ⟨_, a₁, w₁, ⟨hs1, s1, hr1, hq⟩, .pass (x := .inLoop c) rfl (fun _ _ => .inl (by simp)) harr⟩
        | goto l => exact ⟨_, a₁, w₁, ⟨hs1, s1, hr1, hq⟩, .pass (x := .inLoop c) rfl (fun _ _ => .inl (by simp)) harr⟩
        | ret => exact ⟨_, a₁, w₁, ⟨hs1, s1, hr1, hq⟩, .pass (x := .inLoop c) rfl (fun _ _ => .inl (by simp)) harr⟩
        | panic ch => exact ⟨_, a₁, w₁, ⟨hs1, s1, hr1, hq⟩, .pass (x := .inLoop c) rfl (fun _ _ => .inl (by simp)) harr⟩
        | outgrown => exact ⟨_, a₁, w₁, ⟨hs1, s1, hr1, hq⟩, .pass (x := .inLoop c) rfl (fun _ _ => .inl (by simp)) harr⟩
    intro b kk cs
    obtain ⟨e, a', w', hq, harr⟩ := key _ x a w rfl hs (h0 _ _ _ rfl hr) b kk cs
    exact ⟨e, a', w', hq, .of_steps (.one step_loop) harr⟩
  | .exit id, Q, s, a, w, hf, hs, hr, h => wp_exit ⟨hs, s, hr, h⟩
  | .ret, Q, s, a, w, hf, hs, hr, h => wp_ret ⟨hs, s, hr, h⟩
  | .region id ops false, Q, s, a, w, hf, hs, hr, h => by
    refine wp_region ?_
    have := wops_sound (P := P) (B := B) (ops := ops) (Q := Post B n Q) (n := n) (k := Q .normal) (fun s a w h1 h2 h3 => ⟨h1, s, h2, h3⟩) hf ops.toList 0 s a w (fun j => by simp) hs hr h
    simpa using this
  | .region id ops true, Q, s, a, w, hf, hs, hr, h => by
    obtain ⟨hm, ⟨T, hT, h⟩ | ⟨T, hT, h⟩⟩ := h
    · exact region_sound (k := Q .normal) (fun s a w h1 h2 h3 => ⟨h1, s, h2, h3⟩) hf hm T hT hs (hr.drawn _) h
    · exact region_soundH (k := Q .normal) (fun s a w h1 h2 h3 => ⟨h1, s, h2, h3⟩) hf hm T hT hs (hr.drawn _) h
  | .rangeFunc _ _ _ _, Q, s, a, w, hf, hs, hr, h => h.elim
  | .scope _, Q, s, a, w, hf, hs, hr, h => h.elim
  | .label _, Q, s, a, w, hf, hs, hr, h => h.elim
  | .goto _, Q, s, a, w, hf, hs, hr, h => h.elim
  | .refuse _, Q, s, a, w, hf, hs, hr, h => h.elim
end Go.Av
