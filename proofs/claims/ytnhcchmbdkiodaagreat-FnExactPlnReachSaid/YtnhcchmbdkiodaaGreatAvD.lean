/- Engine, part 4: the relation between abstract and real states; rows of a block by their numbers. -/
import Derived.Test.YtnhcchmbdkiodaaGreatAvC
import Derived.Laws.IdiomCopy
import Derived.Laws.Cells
set_option linter.unusedVariables false
set_option linter.unusedSimpArgs false
set_option autoImplicit false
namespace Go.Av

/-! ### Rows of a block -/
theorem RepB.congr {C : Cx} {c c' : Array Value} : ∀ (l : List AV) (off : Nat) (F : Foot), (∀ j, off ≤ j → j < off + l.length → c'[j]? = c[j]?) → RepB C l c off F → RepB C l c' off F
  | [], off, F, k, h => h
  | x :: l, off, F, k, h => by
    obtain ⟨u, F1, F2, e, o1, h1, h2, h3⟩ := h
    exact ⟨u, F1, F2, by rw [k off (Nat.le_refl _) (by simp)]; exact e, o1, h1, RepB.congr l (off + 1) F2 (fun j h5 h6 => k j (by omega) (by simp; omega)) h2, h3⟩
theorem RepO.congr {C : Cx} {e : Nat} {c c' : Array Value} : ∀ (l : List (List AV)) (off : Nat) (F : Foot), (∀ j, off ≤ j → j < off + l.length * e → c'[j]? = c[j]?) → RepO C e l c off F → RepO C e l c' off F
  | [], off, F, k, h => h
  | x :: l, off, F, k, h => by
    obtain ⟨F1, F2, e1, h1, h2, h3⟩ := h
    have e2 : (x :: l).length * e = l.length * e + e := by rw [List.length_cons, Nat.add_mul, Nat.one_mul]
    exact ⟨F1, F2, e1, RepB.congr x off F1 (fun j h5 h6 => k j h5 (by omega)) h1, RepO.congr l (off + e) F2 (fun j h5 h6 => k j (by omega) (by omega)) h2, h3⟩
theorem RepB.append {C : Cx} {c : Array Value} : ∀ (l l' : List AV) (off : Nat) (F : Foot), RepB C (l ++ l') c off F ↔ ∃ F1 F2, RepB C l c off F1 ∧ RepB C l' c (off + l.length) F2 ∧ ∀ b, F b = F1 b + F2 b
  | [], l', off, F => by
    constructor
    · intro h; exact ⟨fun _ => 0, F, fun _ => rfl, by simpa using h, fun b => by simp⟩
    · rintro ⟨F1, F2, h1, h2, h3⟩
      have : F = F2 := funext fun b => by have := h1 b; have := h3 b; omega
      subst this; simpa using h2
  | x :: l, l', off, F => by
    constructor
    · rintro ⟨u, G1, G2, e, o1, h1, h2, h3⟩
      obtain ⟨F1, F2, k1, k2, k3⟩ := (RepB.append l l' (off + 1) G2).1 h2
      refine ⟨fun b => G1 b + F1 b, F2, ⟨u, G1, F1, e, o1, h1, k1, fun _ => rfl⟩, ?_, fun b => by have := h3 b; have := k3 b; simp; omega⟩
      rw [List.length_cons, show off + (l.length + 1) = off + 1 + l.length by omega]; exact k2
    · rintro ⟨F1, F2, ⟨u, G1, G2, e, o1, h1, h2, h3⟩, k1, k2⟩
      refine ⟨u, G1, fun b => G2 b + F2 b, e, o1, h1, (RepB.append l l' (off + 1) _).2 ⟨G2, F2, h2, ?_, fun _ => rfl⟩, fun b => by have := h3 b; have := k2 b; simp; omega⟩
      rw [List.length_cons, show off + (l.length + 1) = off + 1 + l.length by omega] at k1; exact k1
theorem RepO.append {C : Cx} {e : Nat} {c : Array Value} : ∀ (l l' : List (List AV)) (off : Nat) (F : Foot), RepO C e (l ++ l') c off F ↔ ∃ F1 F2, RepO C e l c off F1 ∧ RepO C e l' c (off + l.length * e) F2 ∧ ∀ b, F b = F1 b + F2 b
  | [], l', off, F => by
    constructor
    · intro h; exact ⟨fun _ => 0, F, fun _ => rfl, by simpa using h, fun b => by simp⟩
    · rintro ⟨F1, F2, h1, h2, h3⟩
      have : F = F2 := funext fun b => by have := h1 b; have := h3 b; omega
      subst this; simpa using h2
  | x :: l, l', off, F => by
    have e2 : off + (x :: l).length * e = off + e + l.length * e := by rw [List.length_cons, Nat.add_mul, Nat.one_mul]; omega
    rw [e2]
    constructor
    · rintro ⟨G1, G2, e1, h1, h2, h3⟩
      obtain ⟨F1, F2, k1, k2, k3⟩ := (RepO.append l l' (off + e) G2).1 h2
      exact ⟨fun b => G1 b + F1 b, F2, ⟨G1, F1, e1, h1, k1, fun _ => rfl⟩, k2, fun b => by have := h3 b; have := k3 b; simp; omega⟩
    · rintro ⟨F1, F2, ⟨G1, G2, e1, h1, h2, h3⟩, k1, k2⟩
      exact ⟨G1, fun b => G2 b + F2 b, e1, h1, (RepO.append l l' (off + e) _).2 ⟨G2, F2, h2, k1, fun _ => rfl⟩, fun b => by have := h3 b; have := k2 b; simp; omega⟩

/-- The cells of a list of values, as an array. -/
theorem RepB.of_list {C : Cx} {c : Array Value} : ∀ (l : List AV) (vs : List Value) (off : Nat) (F : Foot), (∀ j v, vs[j]? = some v → c[off + j]? = some v) → (∀ v ∈ vs, v.oneCell' = true) → RepL C l vs F → RepB C l c off F
  | [], vs, off, F, k, ho, h => h.2
  | x :: l, vs, off, F, k, ho, h => by
    obtain ⟨v, vs', F1, F2, rfl, h1, h2, h3⟩ := h
    exact ⟨v, F1, F2, by simpa using k 0 v rfl, ho v (by simp), h1, RepB.of_list l vs' (off + 1) F2 (fun j u hj => by rw [show off + 1 + j = off + (j + 1) by omega]; exact k (j + 1) u hj) (fun u hu => ho u (by simp [hu])) h2, h3⟩
theorem RepB.to_list {C : Cx} {c : Array Value} : ∀ (l : List AV) (off : Nat) (F : Foot), RepB C l c off F → ∃ vs : List Value, RepL C l vs F ∧ vs.length = l.length ∧ (∀ j v, vs[j]? = some v → c[off + j]? = some v) ∧ ∀ v ∈ vs, v.oneCell' = true
  | [], off, F, h => ⟨[], ⟨rfl, h⟩, rfl, fun j v hj => by simp at hj, fun v hv => by simp at hv⟩
  | x :: l, off, F, h => by
    obtain ⟨u, F1, F2, e, o1, h1, h2, h3⟩ := h
    obtain ⟨vs, k1, k2, k3, k4⟩ := RepB.to_list l (off + 1) F2 h2
    refine ⟨u :: vs, ⟨u, vs, F1, F2, rfl, h1, k1, h3⟩, by simp [k2], fun j v hj => ?_, fun v hv => (List.mem_cons.1 hv).elim (fun e => e ▸ o1) (k4 v)⟩
    cases j with
    | zero => simp at hj; subst hj; simpa using e
    | succ j => rw [show off + (j + 1) = off + 1 + j by omega]; exact k3 j v (by simpa using hj)
theorem RepL.length {C : Cx} : ∀ (l : List AV) (vs : List Value) (F : Foot), RepL C l vs F → vs.length = l.length
  | [], vs, F, h => by simp [h.1]
  | x :: l, vs, F, h => by
    obtain ⟨v, vs', F1, F2, rfl, h1, h2, h3⟩ := h
    simp [RepL.length l vs' F2 h2]
theorem RepB.foot {C : Cx} {c : Array Value} {l : List AV} {off : Nat} {F F' : Foot} (h : RepB C l c off F) (e : ∀ b, F' b = F b) : RepB C l c off F' := (funext e : F' = F) ▸ h
theorem RepO.foot {C : Cx} {e : Nat} {c : Array Value} {l : List (List AV)} {off : Nat} {F F' : Foot} (h : RepO C e l c off F) (k : ∀ b, F' b = F b) : RepO C e l c off F' := (funext k : F' = F) ▸ h
theorem RepL.foot {C : Cx} {l : List AV} {vs : List Value} {F F' : Foot} (h : RepL C l vs F) (k : ∀ b, F' b = F b) : RepL C l vs F' := (funext k : F' = F) ▸ h
theorem Rep.foot {C : Cx} {a : AV} {v : Value} {F F' : Foot} (h : Rep C a v F) (k : ∀ b, F' b = F b) : Rep C a v F' := (funext k : F' = F) ▸ h

/-- The row i of a block, and what it takes to put another one in its place. -/
theorem RepO.focus {C : Cx} {e : Nat} {c : Array Value} : ∀ (l : List (List AV)) (off : Nat) (F : Foot) (i : Nat) (r : List AV), RepO C e l c off F → l[i]? = some r →
    r.length = e ∧ ∃ F1 F2 : Foot, RepB C r c (off + i * e) F1 ∧ (∀ b, F b = F1 b + F2 b) ∧
      ∀ (C' : Cx) (r' : List AV) (c' : Array Value) (F' : Foot), Ext C C' → (∀ b, F2 b ≠ 0 → C'.w.heap[b]? = C.w.heap[b]?) → r'.length = e → RepB C' r' c' (off + i * e) F' → (∀ j, (j < off + i * e ∨ off + i * e + e ≤ j) → c'[j]? = c[j]?) →
        RepO C' e (l.set i r') c' off (fun b => F' b + F2 b)
  | [], off, F, i, r, h, hi => by simp at hi
  | x :: l, off, F, 0, r, h, hi => by
    obtain ⟨G1, G2, e1, h1, h2, h3⟩ := h
    obtain rfl : x = r := by simpa using hi
    refine ⟨e1, G1, G2, by simpa using h1, h3, fun C' r' c' F' hx hk k1 k2 k3 => ⟨F', G2, k1, by simpa using k2, RepO.congr l (off + e) G2 (fun j h5 h6 => k3 j (by simp; omega)) (h2.mono hx _ _ _ _ _ hk), fun _ => rfl⟩⟩
  | x :: l, off, F, i + 1, r, h, hi => by
    obtain ⟨G1, G2, e1, h1, h2, h3⟩ := h
    have e2 : off + (i + 1) * e = off + e + i * e := by rw [Nat.add_mul, Nat.one_mul]; omega
    obtain ⟨k0, F1, F2, k1, k2, k3⟩ := RepO.focus l (off + e) G2 i r h2 (by simpa using hi)
    refine ⟨k0, F1, fun b => G1 b + F2 b, by rw [e2]; exact k1, fun b => by have := h3 b; have := k2 b; simp; omega, fun C' r' c' F' hx hk m1 m2 m3 => ?_⟩
    rw [e2] at m2 m3
    refine ⟨G1, fun b => F' b + F2 b, e1, RepB.congr x off G1 (fun j h5 h6 => m3 j (by omega)) (h1.mono hx _ _ _ _ (fun b hb => hk b (by simp; omega))), k3 C' r' c' F' hx (fun b hb => hk b (by simp; omega)) m1 m2 m3, fun b => by simp; omega⟩
end Go.Av
