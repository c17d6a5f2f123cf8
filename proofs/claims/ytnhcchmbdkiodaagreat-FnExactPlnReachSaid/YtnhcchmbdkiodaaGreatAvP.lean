/- Engine, part 17: regions that draw their order. -/
import Derived.Test.YtnhcchmbdkiodaaGreatAvO
import Derived.Orders
set_option linter.unusedVariables false
set_option linter.unusedSimpArgs false
set_option autoImplicit false
namespace Go.Av
variable {P : Program}

/-! ### Operations that leave no trace -/
def Pk (K : AV → Prop) (s : St) (v : AV) : Prop := s.hp = [] ∧ s.nx = 0 ∧ K v
def PCall (P : Program) [Known P] (f : FuncId) (args : List AV) (K : AV → Prop) : Prop := ∃ r : AV, npL args = true ∧ r.top2 = true ∧ r.np = true ∧ r.pu = true ∧ Enters P f ∧ CallA P f (args.map AV.nbV) r ∧ K r
def lenP (P : Program) [Known P] (s : St) (xs : List Operand) (ts : List TypeId) (K : AV → Prop) : Prop := match xs, ts with
  | [x], [t] => match lkT P t, s.ev x with
    | 1, .sl _ rows _ => rows.length ≤ lim ∧ K (.int .i64 rows.length)
    | 1, .nils => K (.int .i64 0)
    | 2, .str b => b.size ≤ lim ∧ K (.int .i64 b.size)
    | _, _ => False
  | _, _ => False
def pureOp : Op → Bool
  | .move _ | .assign _ | .pick _ _ _ | .load _ _ | .nilCheck _ | .fieldAddr _ _ _ | .field _ _ _ | .indexAddr _ _ _ | .index _ _ _ | .slice _ _ _ _ _ => true
  | .binOp _ _ _ _ _ | .unOp _ _ _ | .convert _ _ _ | .build _ _ | .makeInterface _ _ | .makeFunc _ _ _ | .typeAssert _ _ _ _ | .extract _ _ => true
  | _ => false
/-- An operation that hangs on no object and makes none. -/
def pst (P : Program) [Known P] (op : Op) (s : St) (K : AV → Prop) : Prop := match op with
  | .call c => match c.callee with
    | .builtin .len => lenP P s c.args.toList c.argTypes.toList K
    | .value f => match s.ev f with
      | .fn g caps => PCall P g (c.args.toList.map s.ev ++ caps) K
      | _ => False
    | .invoke r name => match s.ev r with
      | .iface t v => ∃ f v', Meth P t name f v v' ∧ PCall P f (v' :: c.args.toList.map s.ev) K
      | _ => False
    | _ => False
  | op => pureOp op = true ∧ stp P op ⟨s.tm, [], 0⟩ (Pk K)

theorem instC_pu : ∀ (l : List AV) (n : Nat), puL l = true → instC n l = (l, [], n)
  | [], n, h => rfl
  | x :: l, n, h => by
    simp only [puL, Bool.and_eq_true] at h
    have ih := instC_pu l n h.2
    cases x <;> first | (exfalso; revert h; simp [AV.pu]; done) | simp only [instC, ih]
theorem instV_pu (x : AV) (n : Nat) (h : x.pu = true) : instV n x = (x, [], n) := by
  cases x with
  | agg l => simp only [instV, instC_pu l n h]
  | own _ _ _ => simp [AV.pu] at h
  | _ => rfl
theorem instT_pu : ∀ (l : List AV) (n : Nat), puL l = true → instT n l = (l, [], n)
  | [], n, h => rfl
  | x :: l, n, h => by
    simp only [puL, Bool.and_eq_true] at h
    simp only [instT, instV_pu x n h.1, instT_pu l n h.2, List.nil_append]
theorem inst_pu (x : AV) (n : Nat) (h : x.pu = true) : inst n x = (x, [], n) := by
  cases x with
  | tup l => simp only [inst, instT_pu l n h]
  | _ => exact instV_pu _ n h
theorem PCall.out [Known P] {f : FuncId} {args : List AV} {K : AV → Prop} (h : PCall P f args K) : ∃ v, K v ∧ ∀ (s : St) (K' : St → AV → Prop), K' s v → CallW P f args s K' := by
  obtain ⟨r, h1, h2, h3, h4, h5, h6, h7⟩ := h
  refine ⟨r, h7, fun s K' hk => .plain (fun r' => r' = r) h1 h5 h6 fun r' hr => ?_⟩
  subst hr
  exact ⟨h2, h3, by simpa [inst_pu r' s.nx h4] using hk⟩
theorem numK_out {k : IntKind} {x : Int} {K : AV → Prop} (h : numK k x K) : ∃ v, K v ∧ ∀ K', K' v → numK k x K' := by
  cases k <;> first | exact ⟨_, h, fun _ hk => hk⟩ | exact ⟨_, h.2, fun _ hk => ⟨h.1, hk⟩⟩
theorem binI_out {op : BinOp} {k k' : IntKind} {x y : Int} {K : AV → Prop} (h : binI op k x k' y K) : ∃ v, K v ∧ ∀ K', K' v → binI op k x k' y K' := by
  cases op <;> first
    | (obtain ⟨v, h1, h2⟩ := numK_out h.2; exact ⟨v, h1, fun _ hk => ⟨h.1, h2 _ hk⟩⟩)
    | (obtain ⟨v, h1, h2⟩ := numK_out h.2.2; exact ⟨v, h1, fun _ hk => ⟨h.1, h.2.1, h2 _ hk⟩⟩)
    | exact ⟨_, h.2.2, fun _ hk => ⟨h.1, h.2.1, hk⟩⟩
    | exact ⟨_, h.2, fun _ hk => ⟨h.1, hk⟩⟩
theorem eqK_out : ∀ (l l' : List AV) (K : Bool → Prop), eqK l l' K → ∃ b, K b ∧ ∀ K' : Bool → Prop, K' b → eqK l l' K' := by
  intro l
  induction l with
  | nil =>
    intro l' K h
    cases l' with
    | nil => exact ⟨_, h, fun _ hk => hk⟩
    | cons y l' => exact h.elim
  | cons x l ih =>
    intro l' K h
    cases l' with
    | nil => cases x <;> exact h.elim
    | cons y l' =>
      cases x with
      | int k x =>
        cases y with
        | int k' y =>
          obtain ⟨b, hb, hk⟩ := ih l' _ h.2
          exact ⟨_, hb, fun K' q => ⟨h.1, hk _ q⟩⟩
        | _ => exact h.elim
      | _ => cases y <;> exact h.elim
theorem bin_out {op : BinOp} {t : TypeId} {cx cy : Bool} {a b : AV} {K : AV → Prop} (h : bin P op t cx cy a b K) : ∃ v, K v ∧ ∀ K', K' v → bin P op t cx cy a b K' := by
  unfold bin at h ⊢
  split at h
  · exact binI_out h
  · split at h
    · exact ⟨_, h.2, fun _ hk => ⟨h.1, hk⟩⟩
    · exact ⟨_, h, fun _ hk => hk⟩
    · exact ⟨_, h, fun _ hk => hk⟩
    · exact h.elim
  · obtain ⟨h1, h2, h⟩ := h
    split at h
    · exact ⟨_, h, fun _ hk => ⟨h1, h2, hk⟩⟩
    · exact ⟨_, h, fun _ hk => ⟨h1, h2, hk⟩⟩
    · exact h.elim
  · obtain ⟨h1, h⟩ := h
    split at h
    · exact ⟨_, h, fun _ hk => ⟨h1, hk⟩⟩
    · exact ⟨_, h, fun _ hk => ⟨h1, hk⟩⟩
    · exact h.elim
  · obtain ⟨h1, h⟩ := h
    split at h
    · exact ⟨_, h, fun _ hk => ⟨h1, hk⟩⟩
    · exact ⟨_, h, fun _ hk => ⟨h1, hk⟩⟩
    · exact h.elim
  · obtain ⟨h1, h⟩ := h
    split at h
    · obtain ⟨b, hb, hk⟩ := eqK_out _ _ _ h
      exact ⟨_, hb, fun _ q => ⟨h1, hk _ q⟩⟩
    · obtain ⟨b, hb, hk⟩ := eqK_out _ _ _ h
      exact ⟨_, hb, fun _ q => ⟨h1, hk _ q⟩⟩
    · exact h.elim
  · split at h
    · obtain ⟨h1, h⟩ := h
      split at h
      · exact ⟨_, h, fun _ hk => ⟨h1, hk⟩⟩
      · exact ⟨_, h, fun _ hk => ⟨h1, hk⟩⟩
      · exact h.elim
    · exact h.elim
theorem bndW_out {s s' : St} {lo hi : Option Operand} {n : Nat} {K : Nat → Nat → Prop} (hl : ∀ x, lo = some x → s'.ev x = s.ev x) (hh : ∀ x, hi = some x → s'.ev x = s.ev x) (h : bndW s lo hi n K) : ∃ l u, K l u ∧ ∀ K' : Nat → Nat → Prop, K' l u → bndW s' lo hi n K' := by
  unfold bndW at h
  split at h
  · exact ⟨_, _, h, fun _ hk => hk⟩
  · rename_i a
    simp only [bndW, hl a rfl]
    split at h
    · exact ⟨_, _, h.2.2, fun _ hk => ⟨h.1, h.2.1, hk⟩⟩
    · exact h.elim
  · rename_i a
    simp only [bndW, hh a rfl]
    split at h
    · exact ⟨_, _, h.2.2, fun _ hk => ⟨h.1, h.2.1, hk⟩⟩
    · exact h.elim
  · rename_i a b
    simp only [bndW, hl a rfl, hh b rfl]
    split at h
    · exact ⟨_, _, h.2.2.2, fun _ hk => ⟨h.1, h.2.1, h.2.2.1, hk⟩⟩
    · exact h.elim
theorem bldW_out [Known P] {s s' : St} {t : TypeId} : ∀ (parts : List (Nat × Operand)) (z : List AV) (K : List AV → Prop), (∀ p ∈ parts, s'.ev p.2 = s.ev p.2) → bldW P s t parts z K → ∃ l, K l ∧ ∀ K' : List AV → Prop, K' l → bldW P s' t parts z K'
  | [], z, K, he, h => ⟨_, h, fun _ hk => hk⟩
  | (i, x) :: r, z, K, he, h => by
    have e := he (i, x) (by simp)
    simp only at e
    simp only [bldW, e] at h ⊢
    split at h
    · obtain ⟨l, h1, h2⟩ := bldW_out r _ K (fun p hp => he p (by simp [hp])) h.2.2
      exact ⟨l, h1, fun K' hk => ⟨h.1, h.2.1, h2 K' hk⟩⟩
    · exact h.elim
theorem ev_hp (tm : List (Nat × AV)) (hp hp' : Hp) (nx nx' : Nat) (x : Operand) : (⟨tm, hp, nx⟩ : St).ev x = (⟨tm, hp', nx'⟩ : St).ev x := by cases x <;> rfl
theorem pst_out' [Known P] {op : Op} {tm : List (Nat × AV)} {hp0 : Hp} {nx0 : Nat} {K : AV → Prop} (h : pst P op ⟨tm, hp0, nx0⟩ K) : ∃ v, K v ∧ ∀ (hp : Hp) (nx : Nat) (K' : St → AV → Prop), K' ⟨tm, hp, nx⟩ v → stp P op ⟨tm, hp, nx⟩ K' := by
  have e := ev_hp tm
  have em : ∀ (l : List Operand) hp hp' nx nx', l.map (⟨tm, hp, nx⟩ : St).ev = l.map (⟨tm, hp', nx'⟩ : St).ev := fun l _ _ _ _ => map_congr' l (fun x _ => e _ _ _ _ x)
  cases op with
  | call c =>
    obtain ⟨callee, args, argTypes⟩ := c
    cases callee with
    | value f =>
      simp only [pst] at h
      split at h
      · rename_i g caps hf
        obtain ⟨v, h1, h2⟩ := h.out
        refine ⟨v, h1, fun hp nx K' hk => ?_⟩
        simp only [stp, e hp hp0 nx nx0 f, hf, em _ hp hp0 nx nx0]
        exact h2 _ _ hk
      · exact h.elim
    | invoke r name =>
      simp only [pst] at h
      split at h
      · rename_i t v hf
        obtain ⟨f, v', hm, h⟩ := h
        obtain ⟨v, h1, h2⟩ := h.out
        refine ⟨v, h1, fun hp nx K' hk => ?_⟩
        simp only [stp, e hp hp0 nx nx0 r, hf, em _ hp hp0 nx nx0]
        exact ⟨f, v', hm, h2 _ _ hk⟩
      · exact h.elim
    | builtin b =>
      cases b with
      | len =>
        simp only [pst, lenP] at h
        split at h
        · rename_i x t hx ht
          simp only [stp, hx, ht]
          split at h
          · rename_i h1 h2
            exact ⟨_, h.2, fun hp nx K' hk => by simp only [e hp hp0 nx nx0 x, h1, h2]; exact fun _ => hk⟩
          · rename_i h1 h2
            exact ⟨_, h, fun hp nx K' hk => by simp only [e hp hp0 nx nx0 x, h1, h2]; exact hk⟩
          · rename_i h1 h2
            exact ⟨_, h.2, fun hp nx K' hk => by simp only [e hp hp0 nx nx0 x, h1, h2]; exact fun _ => hk⟩
          · exact h.elim
        · exact h.elim
      | _ => exact h.elim
  | move x => obtain ⟨_, _, _, h⟩ := h; exact ⟨_, h, fun hp nx K' hk => by simp only [stp, e hp [] nx 0]; exact hk⟩
  | assign x => obtain ⟨_, _, _, h⟩ := h; exact ⟨_, h, fun hp nx K' hk => by simp only [stp, e hp [] nx 0]; exact hk⟩
  | pick x y z =>
    obtain ⟨_, h⟩ := h
    simp only [stp] at h
    split at h
    · rename_i hx; exact ⟨_, h.2.2, fun hp nx K' hk => by simp only [stp, e hp [] nx 0, hx]; exact hk⟩
    · rename_i hx; exact ⟨_, h.2.2, fun hp nx K' hk => by simp only [stp, e hp [] nx 0, hx]; exact hk⟩
    · rename_i b hx
      cases b with
      | true => exact ⟨_, (h.t rfl).2.2, fun hp nx K' hk => by simp only [stp, e hp [] nx 0, hx]; exact ⟨fun _ => hk, fun h => Bool.noConfusion h⟩⟩
      | false => exact ⟨_, (h.f rfl).2.2, fun hp nx K' hk => by simp only [stp, e hp [] nx 0, hx]; exact ⟨fun h => Bool.noConfusion h, fun _ => hk⟩⟩
    · exact h.elim
  | build t ps =>
    obtain ⟨_, h⟩ := h
    simp only [stp] at h
    split at h
    · rename_i z hz
      obtain ⟨h0, h⟩ := h
      obtain ⟨l, h1, h2⟩ := bldW_out (s' := (⟨tm, [], 0⟩ : St)) _ _ _ (fun p hp => rfl) h
      refine ⟨_, h1.2.2, fun hp nx K' hk => ?_⟩
      simp only [stp, hz]
      exact ⟨h0, bldW_congr _ _ _ _ (fun p _ => e hp [] nx 0 p.2) (fun l hl => by subst hl; exact hk) (h2 (fun l' => l' = l) rfl)⟩
    · exact h.elim
  | load t x =>
    obtain ⟨_, h⟩ := h
    simp only [stp] at h
    split at h
    · rename_i g n ht
      split at h
      · rename_i l hx
        exact ⟨_, h.2.2.2.2, fun hp nx K' hk => by simp only [stp, ht, e hp [] nx 0 x, hx]; exact ⟨h.1, h.2.1, hk⟩⟩
      · simp [geth] at h
      · exact h.elim
    · exact h.elim
  | nilCheck x =>
    obtain ⟨_, h⟩ := h
    simp only [stp] at h
    split at h
    · rename_i l hx; exact ⟨_, h.2.2, fun hp nx K' hk => by simp only [stp, e hp [] nx 0, hx]; exact hk⟩
    · rename_i hx; exact ⟨_, h.2.2, fun hp nx K' hk => by simp only [stp, e hp [] nx 0, hx]; exact hk⟩
    · rename_i hx; exact ⟨_, h.2.2, fun hp nx K' hk => by simp only [stp, e hp [] nx 0, hx]; exact hk⟩
    · exact h.elim
  | fieldAddr t x f =>
    obtain ⟨_, h⟩ := h
    simp only [stp] at h
    split at h
    · rename_i ht
      split at h
      · rename_i hx; exact ⟨_, h.2.2, fun hp nx K' hk => by simp only [stp, ht, e hp [] nx 0, hx]; exact hk⟩
      · rename_i hx; exact ⟨_, h.2.2, fun hp nx K' hk => by simp only [stp, ht, e hp [] nx 0, hx]; exact hk⟩
      · exact h.elim
    · exact h.elim
  | field t x f =>
    obtain ⟨_, h⟩ := h
    simp only [stp] at h
    split at h
    · rename_i ht hx; exact ⟨_, h.2.2.2, fun hp nx K' hk => by simp only [stp, ht, e hp [] nx 0, hx]; exact ⟨h.1, hk⟩⟩
    · exact h.elim
  | indexAddr t x y =>
    obtain ⟨_, h⟩ := h
    simp only [stp] at h
    split at h
    · rename_i ht
      split at h
      · rename_i hx hy; exact ⟨_, h.2.2.2.2.2, fun hp nx K' hk => by simp only [stp, ht, e hp [] nx 0, hx, hy]; exact ⟨h.1, h.2.1, h.2.2.1, hk⟩⟩
      · simp [geth] at h
      · exact h.elim
    · rename_i ht
      split at h
      · rename_i h1 hx hy; exact ⟨_, h.2.2.2.2, fun hp nx K' hk => by simp only [stp, ht, e hp [] nx 0, h1, hx, hy]; exact ⟨h.1, h.2.1, hk⟩⟩
      · rename_i h1 hx hy; exact ⟨_, h.2.2.2.2, fun hp nx K' hk => by simp only [stp, ht, e hp [] nx 0, h1, hx, hy]; exact ⟨h.1, h.2.1, hk⟩⟩
      · exact h.elim
  | index t x y =>
    obtain ⟨_, h⟩ := h
    simp only [stp] at h
    split at h
    · rename_i h1 h2 h3; exact ⟨_, h.2.2.2.2.2, fun hp nx K' hk => by simp only [stp, e hp [] nx 0, h1, h2, h3]; exact ⟨h.1, h.2.1, h.2.2.1, hk⟩⟩
    · rename_i h1 h2 h3; exact ⟨_, h.2.2.2.2.2, fun hp nx K' hk => by simp only [stp, e hp [] nx 0, h1, h2, h3]; exact ⟨h.1, h.2.1, h.2.2.1, hk⟩⟩
    · rename_i h1 h2 h3; exact ⟨_, h.2.2.2.2.2, fun hp nx K' hk => by simp only [stp, e hp [] nx 0, h1, h2, h3]; exact ⟨h.1, h.2.1, h.2.2.1, hk⟩⟩
    · exact h.elim
  | slice t x lo hi mx =>
    obtain ⟨_, h⟩ := h
    cases mx with
    | some _ => exact h.elim
    | none =>
      simp only [stp] at h
      split at h
      · rename_i b h1 h2
        obtain ⟨l, u, h3, h4⟩ := bndW_out (s' := (⟨tm, [], 0⟩ : St)) (fun _ _ => rfl) (fun _ _ => rfl) h
        refine ⟨_, h3.2.2, fun hp nx K' hk => ?_⟩
        simp only [stp, e hp [] nx 0, h1, h2]
        exact bndW_congr (fun y _ => e hp [] nx 0 y) (fun y _ => e hp [] nx 0 y) (fun l' u' hl => by obtain ⟨rfl, rfl⟩ := hl; exact hk) (h4 (fun l' u' => l' = l ∧ u' = u) ⟨rfl, rfl⟩)
      · rename_i h1 h2
        split at h
        · rename_i h5
          obtain ⟨h0, h⟩ := h
          obtain ⟨l, u, h3, h4⟩ := bndW_out (s' := (⟨tm, [], 0⟩ : St)) (fun _ _ => rfl) (fun _ _ => rfl) h
          refine ⟨_, h3.2.2, fun hp nx K' hk => ?_⟩
          simp only [stp, e hp [] nx 0, h1, h2, h5]
          exact ⟨h0, bndW_congr (fun y _ => e hp [] nx 0 y) (fun y _ => e hp [] nx 0 y) (fun l' u' hl => by obtain ⟨rfl, rfl⟩ := hl; exact hk) (h4 (fun l' u' => l' = l ∧ u' = u) ⟨rfl, rfl⟩)⟩
        · exact h.elim
      · simp [geth] at h
      · simp [geth] at h
      · exact h.elim
  | binOp op t x y yt =>
    obtain ⟨_, h⟩ := h
    simp only [stp] at h
    obtain ⟨v, h1, h2⟩ := bin_out h
    exact ⟨v, h1.2.2, fun hp nx K' hk => by simp only [stp, e hp [] nx 0]; exact h2 _ hk⟩
  | unOp op t x =>
    obtain ⟨_, h⟩ := h
    cases op with
    | not =>
      simp only [stp] at h
      split at h
      · rename_i hx; exact ⟨_, h.2.2, fun hp nx K' hk => by simp only [stp, e hp [] nx 0, hx]; exact hk⟩
      · rename_i hx; exact ⟨_, h.2.2, fun hp nx K' hk => by simp only [stp, e hp [] nx 0, hx]; exact hk⟩
      · rename_i hx; exact ⟨_, h.2.2, fun hp nx K' hk => by simp only [stp, e hp [] nx 0, hx]; exact hk⟩
      · exact h.elim
    | neg =>
      simp only [stp] at h
      split at h
      · rename_i hx
        obtain ⟨v, h1, h2⟩ := numK_out h
        exact ⟨v, h1.2.2, fun hp nx K' hk => by simp only [stp, e hp [] nx 0, hx]; exact h2 _ hk⟩
      · exact h.elim
    | _ => exact h.elim
  | convert t t' x =>
    obtain ⟨_, h⟩ := h
    simp only [stp] at h
    obtain ⟨h0, h⟩ := h
    split at h
    · rename_i h1 h2; exact ⟨_, h.2.2, fun hp nx K' hk => by simp only [stp, e hp [] nx 0, h1, h2]; exact ⟨h0, hk⟩⟩
    · rename_i h1 h2 h3; exact ⟨_, h.2.2, fun hp nx K' hk => by simp only [stp, e hp [] nx 0, h1, h2, h3]; exact ⟨h0, hk⟩⟩
    · rename_i h1 h2 h3; exact ⟨_, h.2.2.2.2, fun hp nx K' hk => by simp only [stp, e hp [] nx 0, h1, h2, h3]; exact ⟨h0, h.1, h.2.1, hk⟩⟩
    · simp [geth] at h
    · exact h.elim
  | makeInterface t x =>
    obtain ⟨_, h⟩ := h
    simp only [stp] at h
    exact ⟨_, h.2.2.2, fun hp nx K' hk => by simp only [stp, e hp [] nx 0]; exact ⟨h.1, hk⟩⟩
  | makeFunc fn first caps =>
    obtain ⟨_, h⟩ := h
    cases fn with
    | func f =>
      simp only [stp] at h
      exact ⟨_, h.2.2.2, fun hp nx K' hk => by simp only [stp, em _ hp [] nx 0]; exact ⟨h.1, hk⟩⟩
    | _ => exact h.elim
  | typeAssert x xt t ok =>
    obtain ⟨_, h⟩ := h
    cases ok with
    | false => exact h.elim
    | true =>
      simp only [stp] at h
      split at h
      · rename_i hx
        obtain ⟨h0, h⟩ := h
        split at h
        · rename_i hb
          exact ⟨_, h.2.2, fun hp nx K' hk => by simp only [stp, e hp [] nx 0, hx, hb]; exact ⟨h0, hk⟩⟩
        · rename_i hb
          split at h
          · rename_i hz
            exact ⟨_, h.2.2, fun hp nx K' hk => by simp only [stp, e hp [] nx 0, hx, hb, hz]; exact ⟨h0, hk⟩⟩
          · exact h.elim
      · rename_i hx
        obtain ⟨h0, h⟩ := h
        split at h
        · rename_i hz
          exact ⟨_, h.2.2, fun hp nx K' hk => by simp only [stp, e hp [] nx 0, hx, hz]; exact ⟨h0, hk⟩⟩
        · exact h.elim
      · exact h.elim
  | extract x i =>
    obtain ⟨_, h⟩ := h
    simp only [stp] at h
    split at h
    · rename_i hx; exact ⟨_, h.2.2.2, fun hp nx K' hk => by simp only [stp, e hp [] nx 0, hx]; exact ⟨h.1, hk⟩⟩
    · exact h.elim
  | _ => exact absurd h.1 (by simp [pureOp])
theorem pst_out [Known P] {op : Op} {s : St} {K : AV → Prop} (h : pst P op s K) : ∃ v, K v ∧ ∀ (s' : St) (K' : St → AV → Prop), (∀ x ∈ op.operands, s'.ev x = s.ev x) → K' s' v → stp P op s' K' := by
  obtain ⟨tm, hp0, nx0⟩ := s
  obtain ⟨v, h1, h2⟩ := pst_out' h
  refine ⟨v, h1, fun s' K' he hk => ?_⟩
  obtain ⟨tm', hp', nx'⟩ := s'
  exact stp_congr (K := fun s v' => K' ⟨tm', s.hp, s.nx⟩ v') (fun x hx => (he x hx).trans (ev_hp _ _ _ _ _ x)) (fun _ _ _ hk => hk) (h2 hp' nx' _ hk)
end Go.Av
