/- Engine, part 5: abstract and real states; steps that keep them together. -/
import Derived.Test.YtnhcchmbdkiodaaGreatAvD
import GoSem.ClaimJoined
set_option linter.unusedVariables false
set_option linter.unusedSimpArgs false
set_option autoImplicit false
namespace Go.Av

/-- The head of an object in memory. -/
def RepOb (C : Cx) (o : Nat) (ob : Ob) (F : Foot) : Prop :=
  o < C.nx ∧ (((C.mu o).b = none ∧ (C.mu o).len = 0 ∧ (C.mu o).cap = 0 ∧ ob.rows = [] ∧ Z F) ∨
    ∃ b c t FR, (C.mu o).b = some b ∧ (C.mu o).len = ob.rows.length ∧ (C.mu o).e = ob.e ∧ ob.rows.length ≤ (C.mu o).cap ∧ ob.rows.length ≤ lim ∧
      C.w.heap[b]? = some (.cells c t (0, 0)) ∧ c.size = (C.mu o).cap * ob.e ∧ RepO (C.sel ob.g) ob.e ob.rows c 0 FR ∧ ∀ x, F x = (if x = b then 1 else 0) + FR x)
def RepH (C : Cx) : Hp → Foot → Prop
  | [], F => Z F
  | (o, ob) :: h, F => ∃ F1 F2, RepOb C o ob F1 ∧ RepH C h F2 ∧ ∀ b, F b = F1 b + F2 b

theorem RepOb.mono {C C' : Cx} (hx : Ext C C') {o : Nat} {ob : Ob} {F : Foot} (h : RepOb C o ob F) (k : ∀ b, F b ≠ 0 → C'.w.heap[b]? = C.w.heap[b]?) : RepOb C' o ob F := by
  obtain ⟨h0, h⟩ := h
  refine ⟨Nat.lt_of_lt_of_le h0 hx.nx, ?_⟩
  rw [hx.mu o h0]
  rcases h with h | ⟨b, c, t, FR, h1, h2, h3, h4, h5, h6, h7, h8, h9⟩
  · exact .inl h
  · refine .inr ⟨b, c, t, FR, h1, h2, h3, h4, h5, ?_, h7, RepO.mono (hx.sel _) _ _ _ _ _ h8 (fun x hx' => by rw [Cx.sel_w, Cx.sel_w]; exact k x (by have := h9 x; omega)), h9⟩
    rw [k b (by have := h9 b; simp at this; omega)]; exact h6
theorem RepH.mono {C C' : Cx} (hx : Ext C C') : ∀ (h : Hp) (F : Foot), RepH C h F → (∀ b, F b ≠ 0 → C'.w.heap[b]? = C.w.heap[b]?) → RepH C' h F
  | [], F, h, k => h
  | (o, ob) :: h, F, hh, k => by
    obtain ⟨F1, F2, h1, h2, h3⟩ := hh
    exact ⟨F1, F2, h1.mono hx (fun b hb => k b (by have := h3 b; omega)), RepH.mono hx h F2 h2 (fun b hb => k b (by have := h3 b; omega)), h3⟩
/-- One object taken out. -/
theorem RepH.take {C : Cx} : ∀ (h : Hp) (F : Foot) (o : Nat) (ob : Ob), RepH C h F → geth h o = some ob →
    ∃ F1 F2 : Foot, RepOb C o ob F1 ∧ RepH C (remh h o) F2 ∧ (∀ b, F b = F1 b + F2 b)
  | [], F, o, ob, h, e => by simp [geth] at e
  | (n, x) :: h, F, o, ob, hh, e => by
    obtain ⟨F1, F2, h1, h2, h3⟩ := hh
    simp only [geth, remh] at *
    cases hb : Nat.beq n o with
    | true =>
      rw [hb] at e; simp at e; subst e
      obtain rfl := Nat.eq_of_beq_eq_true hb
      exact ⟨F1, F2, h1, by simpa using h2, h3⟩
    | false =>
      rw [hb] at e; simp at e
      obtain ⟨G1, G2, k1, k2, k3⟩ := RepH.take h F2 o ob h2 e
      exact ⟨G1, fun b => F1 b + G2 b, k1, ⟨F1, G2, h1, k2, fun _ => rfl⟩, fun b => by have := h3 b; have := k3 b; simp; omega⟩
/-- One object put in another's place. -/
theorem RepH.put {C : Cx} : ∀ (h : Hp) (F : Foot) (o : Nat) (ob : Ob), RepH C h F → geth h o = some ob →
    ∃ F1 F2 : Foot, RepOb C o ob F1 ∧ (∀ b, F b = F1 b + F2 b) ∧ RepH C (remh h o) F2 ∧
      (∀ C' ob' F1', RepOb C' o ob' F1' → (Ext C C' ∧ ∀ b, F2 b ≠ 0 → C'.w.heap[b]? = C.w.heap[b]?) → RepH C' (seth h o ob') (fun b => F1' b + F2 b))
  | [], F, o, ob, h, e => by simp [geth] at e
  | (n, x) :: h, F, o, ob, hh, e => by
    obtain ⟨F1, F2, h1, h2, h3⟩ := hh
    simp only [geth, seth, remh] at *
    cases hb : Nat.beq n o with
    | true =>
      rw [hb] at e; simp at e; subst e
      obtain rfl := Nat.eq_of_beq_eq_true hb
      exact ⟨F1, F2, h1, h3, by simpa using h2, fun C' ob' F1' k1 k2 => ⟨F1', F2, k1, RepH.mono k2.1 h F2 h2 k2.2, fun _ => rfl⟩⟩
    | false =>
      rw [hb] at e; simp at e
      obtain ⟨G1, G2, k1, k2, k4, k3⟩ := RepH.put h F2 o ob h2 e
      refine ⟨G1, fun b => F1 b + G2 b, k1, fun b => by have := h3 b; have := k2 b; simp; omega, ⟨F1, G2, h1, k4, fun _ => rfl⟩, fun C' ob' F1' m1 m2 => ?_⟩
      exact ⟨F1, fun b => F1' b + G2 b, h1.mono m2.1 (fun b hb => m2.2 b (by simp; omega)), k3 C' ob' F1' m1 ⟨m2.1, fun b hb => m2.2 b (by simp; omega)⟩, fun b => by simp; omega⟩

/-- What is known of variables of the program: the cells of each. -/
class Known (P : Program) where
  tab : List (Nat × Array Value)
def gl (P : Program) [Known P] (b : Nat) : Prop := ∃ p ∈ Known.tab P, p.1 = b
structure Gx (P : Program) [Known P] (w : World) : Prop where
  at_ : ∀ p ∈ Known.tab P, ∃ t z, w.heap[p.1]? = some (.cells p.2 t z)
theorem Gx.keep {P : Program} [Known P] {w w' : World} (h : Gx P w) (k : ∀ b, gl P b → w'.heap[b]? = w.heap[b]?) : Gx P w' :=
  ⟨fun p hp => by rw [k p.1 ⟨p, hp, rfl⟩]; exact h.at_ p hp⟩
/-- Where a call began: its world, the blocks that it may lean on, the blocks that it may write. -/
structure Base (P : Program) [Known P] where
  w : World
  ok : Nat → Prop
  F : Foot
  n : Nat
  mu : Nat → Hdr
  gz : ∀ b, gl P b → b < w.heap.size ∧ F b = 0
  gx : Gx P w
variable {P : Program}
def cx [Known P] (B : Base P) (w : World) (mu : Nat → Hdr) (F : Foot) (nx : Nat) : Cx :=
  ⟨w, fun b => b < w.heap.size ∧ F b = 0 ∧ (B.ok b ∨ B.w.heap.size ≤ b ∨ B.F b ≠ 0), mu, nx⟩
structure Core [Known P] (B : Base P) (s : St) (a : Act) (w : World) (mu : Nat → Hdr) (F : Foot) : Prop where
  defers : a.defers = []
  nx : B.n ≤ s.nx
  mub : ∀ o, o < B.n → mu o = B.mu o
  os : w.os = B.w.os
  tape : w.tape = B.w.tape
  output : w.output = B.w.output
  size : B.w.heap.size ≤ w.heap.size
  old : ∀ b, b < B.w.heap.size → B.F b = 0 → w.heap[b]? = B.w.heap[b]?
  one : ∀ b, F b ≤ 1
  blk : ∀ b, F b ≠ 0 → b < w.heap.size ∧ (B.w.heap.size ≤ b ∨ B.F b ≠ 0)
  tm : ∀ t, Rep (cx B w mu F s.nx) (gtm s.tm t) (a.tmps.getD t undef) (fun _ => 0)
  hp : RepH (cx B w mu F s.nx) s.hp F
theorem Core.gz [Known P] {B : Base P} {s : St} {a : Act} {w : World} {mu : Nat → Hdr} {F : Foot} (c : Core B s a w mu F) : ∀ b, gl P b → b < w.heap.size ∧ F b = 0 := fun b hb => by
  obtain ⟨h1, h2⟩ := B.gz b hb
  refine ⟨Nat.lt_of_lt_of_le h1 c.size, Classical.byContradiction fun hne => ?_⟩
  rcases (c.blk b hne).2 with h | h
  · omega
  · exact h h2
theorem Core.gx [Known P] {B : Base P} {s : St} {a : Act} {w : World} {mu : Nat → Hdr} {F : Foot} (c : Core B s a w mu F) : Gx P w := B.gx.keep fun b hb => c.old b (B.gz b hb).1 (B.gz b hb).2
def Rel [Known P] (B : Base P) (s : St) (a : Act) (w : World) : Prop := ∃ mu F, Core B s a w mu F
/-- The state beside a value. -/
def RelV [Known P] (B : Base P) (s : St) (a : Act) (w : World) (v : AV) (x : Value) : Prop := ∃ mu F, Core B s a w mu F ∧ Rep (cx B w mu F s.nx) v x (fun _ => 0)

theorem getD_set {xs : Array Value} {d t : Nat} {v : Value} (h : d < xs.size) : (xs.setIfInBounds d v).getD t undef = if d = t then v else xs.getD t undef := by
  by_cases e : d = t
  · subst e; simp [Array.getD, h]
  · rw [if_neg e]
    simp only [Array.getD, Array.size_setIfInBounds]
    split
    · exact Array.getElem_setIfInBounds_ne _ e
    · rfl
theorem RelV.put [Known P] {B : Base P} {s : St} {a : Act} {w : World} {v : AV} {x : Value} (h : RelV B s a w v x) (d : Option Tmp) (hd : ∀ t, d = some t → t < a.tmps.size) : Rel B (s.put d v) (a.put d x) w := by
  obtain ⟨mu, F, c, r⟩ := h
  refine ⟨mu, F, ?_⟩
  cases d with
  | none => exact c
  | some d =>
    refine ⟨c.defers, c.nx, c.mub, c.os, c.tape, c.output, c.size, c.old, c.one, c.blk, fun t => ?_, c.hp⟩
    have hd' := hd d rfl
    simp only [St.put, gtm, Act.put, getD_set hd']
    by_cases e : d = t
    · subst e
      rw [if_pos rfl, show Nat.beq d d = true from Nat.beq_refl d]
      exact r
    · rw [if_neg e, show Nat.beq d t = false from by cases hb : Nat.beq d t with | false => rfl | true => exact absurd (Nat.eq_of_beq_eq_true hb) e]
      exact c.tm t
/-- A value that nobody knows. -/
theorem Rel.dead [Known P] {B : Base P} {s : St} {a : Act} {w : World} (h : Rel B s a w) (x : Value) : RelV B s a w .dead x := by
  obtain ⟨mu, F, c⟩ := h
  exact ⟨mu, F, c, fun _ => rfl⟩

/-- What an operation that isn't wanted leaves. -/
theorem Rel.skip [Known P] {B : Base P} {s : St} {a : Act} {w : World} (h : Rel B s a w) : RelV B s a w (.tup []) undef := by
  obtain ⟨mu, F, c⟩ := h
  exact ⟨mu, F, c, [], rfl, rfl, fun _ => rfl⟩

/-! ### Operands -/
theorem rep_int {C : Cx} {k : IntKind} {n : Int} (h : k.wrap n = n) : Rep C (.int k n) (.int k n) (fun _ => 0) := ⟨rfl, h, fun _ => rfl⟩
theorem repL_ofVal {C : Cx} (f : Value → AV) : ∀ (l : List Value), (∀ v ∈ l, Rep C (f v) v (fun _ => 0)) → RepL C (l.map f) l (fun _ => 0)
  | [], h => ⟨rfl, fun _ => rfl⟩
  | v :: l, h => ⟨v, l, _, _, rfl, h v (by simp), repL_ofVal f l (fun u hu => h u (by simp [hu])), fun _ => rfl⟩
theorem rep_ofVal {C : Cx} : ∀ (n : Nat) (v : Value), okV n v = true → Rep C (ofVal n v) v (fun _ => 0) := by
  intro n
  induction n with
  | zero =>
    intro v hv
    unfold ofVal
    split <;> first
      | exact ⟨rfl, fun _ => rfl⟩
      | (simp [okV] at hv; exact ⟨rfl, hv, fun _ => rfl⟩)
      | exact ⟨rfl, Nat.le_of_ble_eq_true hv, fun _ => rfl⟩
      | exact fun _ => rfl
      | (rename_i h; cases h)
  | succ n ih =>
    intro v hv
    unfold ofVal
    split <;> first
      | exact ⟨rfl, fun _ => rfl⟩
      | (simp only [okV, decide_eq_true_eq] at hv; exact ⟨rfl, hv, fun _ => rfl⟩)
      | exact ⟨rfl, Nat.le_of_ble_eq_true hv, fun _ => rfl⟩
      | exact fun _ => rfl
      | skip
    rename_i m cs he
    obtain rfl : n = m := by omega
    exact ⟨cs.toList, by simp, repL_ofVal _ _ (fun v hm => ih v (List.all_eq_true.1 hv v hm))⟩
theorem Core.ev [Known P] {B : Base P} {s : St} {a : Act} {w : World} {mu : Nat → Hdr} {F : Foot} (c : Core B s a w mu F) (x : Operand) (hx : okO x = true) : Rep (cx B w mu F s.nx) (s.ev x) (a.eval x) (fun _ => 0) := by
  cases x with
  | tmp t => exact c.tm t
  | const v => exact rep_ofVal 3 v hx
  | global g => exact fun _ => rfl
  | func f => exact ⟨[], rfl, rfl, fun _ => rfl⟩
theorem nb_rep {C : Cx} {a : AV} {v : Value} {F : Foot} (h : Rep C a v F) : Rep C a.nb v F := by cases a <;> exact h
theorem nbL_rep {C : Cx} : ∀ (l : List AV) (vs : List Value) (F : Foot), RepL C l vs F → RepL C (l.map AV.nb) vs F
  | [], vs, F, h => h
  | x :: l, vs, F, h => by
    obtain ⟨v, us, F1, F2, e, h1, h2, h3⟩ := h
    exact ⟨v, us, F1, F2, e, nb_rep h1, nbL_rep l us F2 h2, h3⟩
theorem nbV_rep {C : Cx} {a : AV} {v : Value} {F : Foot} (h : Rep C a v F) : Rep C a.nbV v F := by
  cases a with
  | agg l => obtain ⟨cs, e, h⟩ := h; exact ⟨cs, e, nbL_rep l cs F h⟩
  | _ => exact h
end Go.Av
