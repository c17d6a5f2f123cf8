/- Engine, part 16: what an operation makes hangs on its operands and on the heap alone. -/
import Derived.Test.YtnhcchmbdkiodaaGreatAvL
set_option linter.unusedVariables false
set_option linter.unusedSimpArgs false
set_option autoImplicit false
namespace Go.Av
variable {P : Program}

theorem If.imp {b : Bool} {X Y X' Y' : Prop} (h : If b X Y) (hx : X → X') (hy : Y → Y') : If b X' Y' := ⟨fun e => hx (h.t e), fun e => hy (h.f e)⟩
theorem numK_mono {k : IntKind} {x : Int} {K K' : AV → Prop} (hK : ∀ v, K v → K' v) (h : numK k x K) : numK k x K' := by
  cases k <;> first | exact hK _ h | exact ⟨h.1, hK _ h.2⟩
theorem binI_mono {op : BinOp} {k k' : IntKind} {x y : Int} {K K' : AV → Prop} (hK : ∀ v, K v → K' v) (h : binI op k x k' y K) : binI op k x k' y K' := by
  cases op <;> first | exact ⟨h.1, numK_mono hK h.2⟩ | exact ⟨h.1, h.2.1, numK_mono hK h.2.2⟩ | exact ⟨h.1, h.2.1, hK _ h.2.2⟩ | exact ⟨h.1, hK _ h.2⟩
theorem eqK_mono : ∀ (l l' : List AV) (K K' : Bool → Prop), (∀ b, K b → K' b) → eqK l l' K → eqK l l' K' := by
  intro l
  induction l with
  | nil =>
    intro l' K K' hK h
    cases l' with
    | nil => exact hK _ h
    | cons y l' => exact h.elim
  | cons x l ih =>
    intro l' K K' hK h
    cases l' with
    | nil => cases x <;> exact h.elim
    | cons y l' =>
      cases x with
      | int k x =>
        cases y with
        | int k' y => exact ⟨h.1, ih l' _ _ (fun b hb => hK _ hb) h.2⟩
        | _ => exact h.elim
      | _ => cases y <;> exact h.elim
theorem bin_mono {op : BinOp} {t : TypeId} {cx cy : Bool} {a b : AV} {K K' : AV → Prop} (hK : ∀ v, K v → K' v) (h : bin P op t cx cy a b K) : bin P op t cx cy a b K' := by
  unfold bin at h ⊢
  split at h
  · exact binI_mono hK h
  · split at h
    · exact ⟨h.1, hK _ h.2⟩
    · exact hK _ h
    · exact hK _ h
    · exact h.elim
  · obtain ⟨h1, h2, h⟩ := h
    refine ⟨h1, h2, ?_⟩
    split at h
    · exact hK _ h
    · exact hK _ h
    · exact h.elim
  · obtain ⟨h1, h⟩ := h
    refine ⟨h1, ?_⟩
    split at h
    · exact hK _ h
    · exact hK _ h
    · exact h.elim
  · obtain ⟨h1, h⟩ := h
    refine ⟨h1, ?_⟩
    split at h
    · exact hK _ h
    · exact hK _ h
    · exact h.elim
  · obtain ⟨h1, h⟩ := h
    refine ⟨h1, ?_⟩
    split at h
    · exact eqK_mono _ _ _ _ (fun _ => hK _) h
    · exact eqK_mono _ _ _ _ (fun _ => hK _) h
    · exact h.elim
  · split at h
    · obtain ⟨h1, h⟩ := h
      refine ⟨h1, ?_⟩
      split at h
      · exact hK _ h
      · exact hK _ h
      · exact h.elim
    · exact h.elim
theorem bndW_congr {s s' : St} {lo hi : Option Operand} {n : Nat} {K K' : Nat → Nat → Prop} (hl : ∀ x, lo = some x → s'.ev x = s.ev x) (hh : ∀ x, hi = some x → s'.ev x = s.ev x) (hK : ∀ l h, K l h → K' l h) (h : bndW s lo hi n K) : bndW s' lo hi n K' := by
  unfold bndW at h ⊢
  split at h
  · exact hK _ _ h
  · rename_i a
    simp only [hl a rfl]
    split at h
    · exact ⟨h.1, h.2.1, hK _ _ h.2.2⟩
    · exact h.elim
  · rename_i a
    simp only [hh a rfl]
    split at h
    · exact ⟨h.1, h.2.1, hK _ _ h.2.2⟩
    · exact h.elim
  · rename_i a b
    simp only [hl a rfl, hh b rfl]
    split at h
    · exact ⟨h.1, h.2.1, h.2.2.1, hK _ _ h.2.2.2⟩
    · exact h.elim
theorem bldW_congr [Known P] {s s' : St} {t : TypeId} : ∀ (parts : List (Nat × Operand)) (z : List AV) (K K' : List AV → Prop), (∀ p ∈ parts, s'.ev p.2 = s.ev p.2) → (∀ l, K l → K' l) → bldW P s t parts z K → bldW P s' t parts z K'
  | [], z, K, K', he, hK, h => hK _ h
  | (i, x) :: r, z, K, K', he, hK, h => by
    simp only [bldW] at h ⊢
    have e := he (i, x) (by simp)
    simp only at e
    rw [e]
    split at h
    · exact ⟨h.1, h.2.1, bldW_congr r _ K K' (fun p hp => he p (by simp [hp])) hK h.2.2⟩
    · exact h.elim
theorem rowsW_congr {s s' : St} {e : Nat} : ∀ (parts : List (Nat × Operand)) (n : Nat) (h : Hp) (K K' : List (List AV) → Hp → Prop), (∀ p ∈ parts, s'.ev p.2 = s.ev p.2) → (∀ l h, K l h → K' l h) → rowsW s e n parts h K → rowsW s' e n parts h K'
  | [], n, h, K, K', he, hK, hw => hK _ _ hw
  | (i, x) :: r, n, h, K, K', he, hK, hw => by
    simp only [rowsW] at hw ⊢
    have e := he (i, x) (by simp)
    simp only at e
    rw [e]
    split at hw
    · exact ⟨hw.1, hw.2.1, hw.2.2.1, rowsW_congr r _ _ _ _ (fun p hp => he p (by simp [hp])) (fun _ _ hk => hK _ _ hk) hw.2.2.2⟩
    · exact hw.elim
theorem srcW_mono {s s' : St} {e : Nat} {y : AV} {h : Hp} {K K' : List (List AV) → Hp → Prop} (hK : ∀ l h, K l h → K' l h) (hw : srcW s e y h K) : srcW s' e y h K' := by
  unfold srcW at hw ⊢
  split at hw
  · exact hK _ _ hw
  · exact ⟨hw.1, fun hl => hK _ _ (hw.2 hl)⟩
  · split at hw
    · exact ⟨hw.1, hw.2.1, fun hl => hK _ _ (hw.2.2 hl)⟩
    · exact hw.elim
  · exact hw.elim
theorem CallW_congr [Known P] {f : FuncId} {args : List AV} {tm tm' : List (Nat × AV)} {hp : Hp} {nx : Nat} {K K' : St → AV → Prop} (hK : ∀ hp nx v, K ⟨tm, hp, nx⟩ v → K' ⟨tm', hp, nx⟩ v) (h : CallW P f args ⟨tm, hp, nx⟩ K) : CallW P f args ⟨tm', hp, nx⟩ K' := by
  cases h with
  | plain Q np en h k => exact .plain Q np en h fun r hq => ⟨(k r hq).1, (k r hq).2.1, hK _ _ _ (k r hq).2.2⟩
  | lent Q np en h k => exact .lent Q np en h fun r hq => ⟨(k r hq).1, (k r hq).2.1, (k r hq).2.2.1, hK _ _ _ (k r hq).2.2.2⟩
  | lend ρ n args' hin Q fu ke ha hh en h k => exact .lend ρ n args' hin Q fu ke ha hh en h fun r hout hq => (k r hout hq).elim fun N k => ⟨N, k.1, k.2.1, k.2.2.1, hK _ _ _ k.2.2.2⟩
theorem map_congr' {f g : Operand → AV} : ∀ (l : List Operand), (∀ x ∈ l, f x = g x) → l.map f = l.map g
  | [], h => rfl
  | x :: l, h => by rw [List.map_cons, List.map_cons, h x (by simp), map_congr' l (fun y hy => h y (by simp [hy]))]
theorem stp_congr [Known P] {op : Op} {tm tm' : List (Nat × AV)} {hp : Hp} {nx : Nat} {K K' : St → AV → Prop} (he : ∀ x ∈ op.operands, (⟨tm', hp, nx⟩ : St).ev x = (⟨tm, hp, nx⟩ : St).ev x)
    (hK : ∀ hp nx v, K ⟨tm, hp, nx⟩ v → K' ⟨tm', hp, nx⟩ v) (h : stp P op ⟨tm, hp, nx⟩ K) : stp P op ⟨tm', hp, nx⟩ K' := by
  have hks : ∀ v, K ⟨tm, hp, nx⟩ v → K' ⟨tm', hp, nx⟩ v := hK hp nx
  cases op with
  | move x => have e := he x (by simp [Op.operands]); simp only [stp, e] at h ⊢; exact hks _ h
  | assign x => have e := he x (by simp [Op.operands]); simp only [stp, e] at h ⊢; exact hks _ h
  | pick x y z =>
    have e := he x (by simp [Op.operands]); have e2 := he y (by simp [Op.operands]); have e3 := he z (by simp [Op.operands])
    simp only [stp, e, e2, e3] at h ⊢
    split at h
    · exact hks _ h
    · exact hks _ h
    · exact h.imp (hks _) (hks _)
    · exact h.elim
  | alloc t => simp only [stp] at h ⊢; split at h <;> simp_all
  | box t x => have e := he x (by simp [Op.operands]); simp only [stp, e] at h ⊢; split at h <;> simp_all
  | build t ps =>
    simp only [stp] at h ⊢
    split at h
    · exact ⟨h.1, bldW_congr _ _ _ _ (fun p hp => he p.2 (by simp [Op.operands]; exact ⟨p.1, by simpa using hp⟩)) (fun _ hk => hks _ hk) h.2⟩
    · exact h.elim
  | buildSlice t n ps =>
    simp only [stp] at h ⊢
    split at h
    · exact ⟨h.1, h.2.1, rowsW_congr _ _ _ _ _ (fun p hp => he p.2 (by simp [Op.operands]; exact ⟨p.1, by simpa using hp⟩)) (fun _ _ hk => ⟨hk.1, hK _ _ _ hk.2⟩) h.2.2⟩
    · exact h.elim
  | load t x =>
    have e := he x (by simp [Op.operands]); simp only [stp, e] at h ⊢
    split at h
    · split at h
      · exact ⟨h.1, h.2.1, hks _ h.2.2⟩
      · split at h
        · refine ⟨h.1, h.2.1, h.2.2.1, ?_⟩
          have h3 := h.2.2.2
          split at h3
          · exact hks _ h3
          · exact ⟨h3.1, h3.2.1, hK _ _ _ h3.2.2⟩
        · exact h.elim
      · exact h.elim
    · exact h.elim
  | store t x y =>
    have e := he x (by simp [Op.operands]); have e2 := he y (by simp [Op.operands]); simp only [stp, e, e2] at h ⊢
    split at h
    · split at h
      · exact ⟨h.1, h.2.1, h.2.2.1, h.2.2.2.1, h.2.2.2.2.1, hK _ _ _ h.2.2.2.2.2⟩
      · exact h.elim
    · exact h.elim
  | nilCheck x => have e := he x (by simp [Op.operands]); simp only [stp, e] at h ⊢; split at h <;> first | exact hks _ h | exact h.elim
  | fieldAddr t x f =>
    have e := he x (by simp [Op.operands]); simp only [stp, e] at h ⊢
    split at h
    · split at h <;> first | exact hks _ h | exact h.elim
    · exact h.elim
  | field t x f =>
    have e := he x (by simp [Op.operands]); simp only [stp, e] at h ⊢
    split at h
    · exact ⟨h.1, hks _ h.2⟩
    · exact h.elim
  | indexAddr t x y =>
    have e := he x (by simp [Op.operands]); have e2 := he y (by simp [Op.operands]); simp only [stp, e, e2] at h ⊢
    split at h
    · split at h
      · exact ⟨h.1, h.2.1, h.2.2.1, hks _ h.2.2.2⟩
      · split at h
        · exact ⟨h.1, h.2.1, h.2.2.1, hks _ h.2.2.2⟩
        · exact h.elim
      · exact h.elim
    · split at h
      · exact ⟨h.1, h.2.1, hks _ h.2.2⟩
      · exact ⟨h.1, h.2.1, hks _ h.2.2⟩
      · exact h.elim
  | index t x y =>
    have e := he x (by simp [Op.operands]); have e2 := he y (by simp [Op.operands]); simp only [stp, e, e2] at h ⊢
    split at h
    · exact ⟨h.1, h.2.1, h.2.2.1, hks _ h.2.2.2⟩
    · exact ⟨h.1, h.2.1, h.2.2.1, hks _ h.2.2.2⟩
    · exact ⟨h.1, h.2.1, h.2.2.1, hks _ h.2.2.2⟩
    · exact h.elim
  | slice t x lo hi mx =>
    cases mx with
    | some _ => exact h.elim
    | none =>
      have e := he x (by simp [Op.operands]); simp only [stp, e] at h ⊢
      have hlo : ∀ y, lo = some y → (⟨tm', hp, nx⟩ : St).ev y = (⟨tm, hp, nx⟩ : St).ev y := fun y hy => he y (by simp [Op.operands, hy])
      have hhi : ∀ y, hi = some y → (⟨tm', hp, nx⟩ : St).ev y = (⟨tm, hp, nx⟩ : St).ev y := fun y hy => he y (by simp [Op.operands, hy])
      split at h
      · exact bndW_congr hlo hhi (fun _ _ hk => hks _ hk) h
      · split at h
        · exact ⟨h.1, bndW_congr hlo hhi (fun _ _ hk => hks _ hk) h.2⟩
        · exact h.elim
      · split at h
        · exact ⟨h.1, h.2.1, bndW_congr hlo hhi (fun _ _ hk => hK _ _ _ hk) h.2.2⟩
        · exact h.elim
      · split at h
        · exact ⟨h.1, h.2.1, h.2.2.1, bndW_congr hlo hhi (fun _ _ hk => hK _ _ _ hk) h.2.2.2⟩
        · exact h.elim
      · exact h.elim
  | binOp op t x y yt =>
    have e := he x (by simp [Op.operands]); have e2 := he y (by simp [Op.operands]); simp only [stp, e, e2] at h ⊢
    exact bin_mono hks h
  | unOp op t x =>
    have e := he x (by simp [Op.operands])
    cases op with
    | not => simp only [stp, e] at h ⊢; split at h <;> first | exact hks _ h | exact h.elim
    | neg =>
      simp only [stp, e] at h ⊢
      split at h
      · exact numK_mono hks h
      · exact h.elim
    | _ => exact h.elim
  | convert t t' x =>
    have e := he x (by simp [Op.operands]); simp only [stp, e] at h ⊢
    refine ⟨h.1, ?_⟩
    replace h := h.2
    split at h
    · exact hks _ h
    · exact hks _ h
    · exact ⟨h.1, h.2.1, hks _ h.2.2⟩
    · split at h
      · exact ⟨h.1, h.2.1, h.2.2.1, h.2.2.2.1, hks _ h.2.2.2.2⟩
      · exact h.elim
    · exact h.elim
  | makeSlice t x y =>
    have e := he x (by simp [Op.operands]); have e2 := he y (by simp [Op.operands]); simp only [stp, e, e2] at h ⊢
    split at h
    · exact ⟨h.1, h.2.1, h.2.2.1, hK _ _ _ h.2.2.2⟩
    · exact h.elim
  | makeInterface t x => have e := he x (by simp [Op.operands]); simp only [stp, e] at h ⊢; exact ⟨h.1, hks _ h.2⟩
  | makeFunc fn first caps =>
    have e := map_congr' caps.toList (fun x hx => he x (by simp [Op.operands]; exact .inr (by simpa using hx)))
    cases fn with
    | func f => simp only [stp, e] at h ⊢; exact ⟨h.1, hks _ h.2⟩
    | _ => exact h.elim
  | typeAssert x xt t ok =>
    have e := he x (by simp [Op.operands])
    cases ok with
    | false => exact h.elim
    | true =>
      simp only [stp, e] at h ⊢
      split at h
      · refine ⟨h.1, ?_⟩
        replace h := h.2
        split at h
        · exact hks _ h
        · split at h
          · exact hks _ h
          · exact h.elim
      · refine ⟨h.1, ?_⟩
        replace h := h.2
        split at h
        · exact hks _ h
        · exact h.elim
      · exact h.elim
  | call c =>
    have ea := map_congr' c.args.toList (fun x hx => he x (by simp [Op.operands, Call.operands]; exact .inr (by simpa using hx)))
    have ea' : ∀ x ∈ c.args.toList, (⟨tm', hp, nx⟩ : St).ev x = (⟨tm, hp, nx⟩ : St).ev x := fun x hx => he x (by simp [Op.operands, Call.operands]; exact .inr (by simpa using hx))
    obtain ⟨callee, args, argTypes⟩ := c
    simp only at ea ea'
    cases callee with
    | value f =>
      have e := he f (by simp [Op.operands, Call.operands])
      simp only [stp, e, ea] at h ⊢
      split at h
      · exact CallW_congr hK h
      · exact h.elim
    | invoke r name =>
      have e := he r (by simp [Op.operands, Call.operands])
      simp only [stp, e, ea] at h ⊢
      split at h
      · obtain ⟨f, v', h1, h2⟩ := h
        exact ⟨f, v', h1, CallW_congr hK h2⟩
      · exact h.elim
    | builtin b =>
      cases b with
      | len =>
        simp only [stp] at h ⊢
        split at h
        · rename_i x t hx ht
          rw [hx] at ea'
          simp only [ea' x (by simp)]
          split at h
          · exact fun hl => hks _ (h hl)
          · exact hks _ h
          · split at h
            · exact fun hl => hks _ (h hl)
            · exact h.elim
          · exact fun hl => hks _ (h hl)
          · exact h.elim
        · exact h.elim
      | min =>
        simp only [stp] at h ⊢
        split at h
        · rename_i x y hx
          rw [hx] at ea'
          simp only [ea' x (by simp), ea' y (by simp)]
          split at h
          · exact ⟨h.1, hks _ h.2⟩
          · exact h.elim
        · exact h.elim
      | append =>
        simp only [stp] at h ⊢
        split at h
        · rename_i x y t t' hx ht
          rw [hx] at ea'
          simp only [ea' x (by simp), ea' y (by simp)]
          split at h
          · exact srcW_mono (fun _ _ hk => ⟨hk.1, hK _ _ _ hk.2⟩) h
          · split at h
            · exact ⟨h.1, h.2.1, srcW_mono (fun _ _ hk => ⟨hk.1, hK _ _ _ hk.2⟩) h.2.2⟩
            · exact h.elim
          · exact h.elim
        · exact h.elim
      | copy =>
        simp only [stp] at h ⊢
        split at h
        · rename_i x y t t' hx ht
          rw [hx] at ea'
          simp only [ea' x (by simp), ea' y (by simp)]
          split at h
          · split at h
            · exact ⟨h.1, h.2.1, srcW_mono (fun _ _ hk => ⟨hk.1, hK _ _ _ hk.2⟩) h.2.2⟩
            · exact h.elim
          · exact h.elim
        · exact h.elim
      | _ => exact h.elim
  | extract x i =>
    have e := he x (by simp [Op.operands]); simp only [stp, e] at h ⊢
    split at h
    · exact ⟨h.1, hks _ h.2⟩
    · exact h.elim
  | _ => exact h.elim
end Go.Av
