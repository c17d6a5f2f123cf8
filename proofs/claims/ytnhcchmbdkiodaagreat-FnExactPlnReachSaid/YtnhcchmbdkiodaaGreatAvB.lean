/- Engine, part 2: a reading outlives what does not touch it; reading cells and rows by their numbers. -/
import Derived.Test.YtnhcchmbdkiodaaGreatAvA
set_option linter.unusedVariables false
set_option linter.unusedSimpArgs false
set_option autoImplicit false
namespace Go.Av

structure Ext (C C' : Cx) : Prop where
  ok : ∀ b, C.ok b → C'.ok b
  keep : ∀ b, C.ok b → C'.w.heap[b]? = C.w.heap[b]?
  nx : C.nx ≤ C'.nx
  mu : ∀ o, o < C.nx → C'.mu o = C.mu o

theorem Ext.refl (C : Cx) : Ext C C := ⟨fun _ h => h, fun _ _ => rfl, Nat.le_refl _, fun _ _ => rfl⟩
theorem Ext.pu {C C' : Cx} (h : Ext C C') : Ext C.pu C'.pu := ⟨h.ok, h.keep, Nat.le_refl _, fun _ _ => rfl⟩
theorem Ext.sel {C C' : Cx} (h : Ext C C') : ∀ g, Ext (C.sel g) (C'.sel g)
  | true => h
  | false => h.pu
theorem Cx.sel_w (C : Cx) : ∀ g, (C.sel g).w = C.w
  | true => rfl
  | false => rfl
theorem cell_of_heap {w w' : World} {a : Addr} {n : Nat} (h : w'.heap[a.block]? = w.heap[a.block]?) : w'.cell? (a.add n) = w.cell? (a.add n) := by
  have e : (a.add n).block = a.block := by unfold Addr.add; split <;> rfl
  unfold World.cell?
  rw [e, h]

mutual
theorem Rep.mono {C C' : Cx} (hx : Ext C C') : ∀ (a : AV) (v : Value) (F : Foot), Rep C a v F → (∀ b, F b ≠ 0 → C'.w.heap[b]? = C.w.heap[b]?) → Rep C' a v F
  | .dead, v, F, h, k => h
  | .int _ _, v, F, h, k => h
  | .tt, v, F, h, k => h
  | .ff, v, F, h, k => h
  | .bool _, v, F, h, k => h
  | .str _, v, F, h, k => h
  | .agg l, v, F, h, k => by obtain ⟨cs, e, h⟩ := h; exact ⟨cs, e, RepL.mono hx l cs F h k⟩
  | .tup l, v, F, h, k => by obtain ⟨cs, e, h⟩ := h; exact ⟨cs, e, RepL.mono hx l cs F h k⟩
  | .sl e rows d, v, F, h, k => by
    obtain ⟨⟨a, cap, e1, h1, h2, h3⟩, hz⟩ := h
    exact ⟨⟨a, cap, e1, h1, h2, RepR.mono hx.pu e rows a 0 h3⟩, hz⟩
  | .own e rows d, v, F, h, k => by
    rcases h with h | ⟨b, cap, c, t, FR, h1, h2, h3, h4, h5, h6, h7⟩
    · exact .inl h
    · refine .inr ⟨b, cap, c, t, FR, h1, h2, h3, ?_, h5, RepO.mono hx.pu e rows c 0 FR h6 (fun x hx' => k x (by have := h7 x; omega)), h7⟩
      rw [k b (by have := h7 b; simp at this; omega)]; exact h4
  | .nils, v, F, h, k => h
  | .os o, v, F, h, k => by
    obtain ⟨h0, h1, h2⟩ := h
    exact ⟨Nat.lt_of_lt_of_le h0 hx.nx, by rw [hx.mu o h0]; exact h1, h2⟩
  | .rp cells, v, F, h, k => by
    obtain ⟨⟨ad, e, h1⟩, hz⟩ := h
    exact ⟨⟨ad, e, RepA.mono hx.pu cells ad 0 h1⟩, hz⟩
  | .cp o i off, v, F, h, k => by
    obtain ⟨h0, h1, h2⟩ := h
    exact ⟨Nat.lt_of_lt_of_le h0 hx.nx, by rw [hx.mu o h0]; exact h1, h2⟩
  | .nilp, v, F, h, k => h
  | .fn _ l, v, F, h, k => by obtain ⟨cs, e, h⟩ := h; exact ⟨cs, e, RepL.mono hx l cs F h k⟩
  | .nilfn, v, F, h, k => h
  | .iface _ x, v, F, h, k => by obtain ⟨u, e, h⟩ := h; exact ⟨u, e, Rep.mono hx x u F h k⟩
  | .nilif, v, F, h, k => h
theorem RepL.mono {C C' : Cx} (hx : Ext C C') : ∀ (l : List AV) (vs : List Value) (F : Foot), RepL C l vs F → (∀ b, F b ≠ 0 → C'.w.heap[b]? = C.w.heap[b]?) → RepL C' l vs F
  | [], vs, F, h, k => h
  | a :: l, vs, F, h, k => by
    obtain ⟨v, vs', F1, F2, e, h1, h2, h3⟩ := h
    exact ⟨v, vs', F1, F2, e, Rep.mono hx a v F1 h1 (fun b hb => k b (by have := h3 b; omega)), RepL.mono hx l vs' F2 h2 (fun b hb => k b (by have := h3 b; omega)), h3⟩
theorem RepA.mono {C C' : Cx} (hx : Ext C C') : ∀ (l : List AV) (ad : Addr) (j : Nat), RepA C l ad j → RepA C' l ad j
  | [], ad, j, h => h
  | a :: l, ad, j, h => by
    obtain ⟨⟨h0, u, h1, o1, h2⟩, h3⟩ := h
    exact ⟨⟨hx.ok _ h0, u, by rw [cell_of_heap (hx.keep _ h0)]; exact h1, o1, Rep.mono hx a u _ h2 (fun b hb => absurd rfl hb)⟩, RepA.mono hx l ad (j + 1) h3⟩
theorem RepR.mono {C C' : Cx} (hx : Ext C C') (e : Nat) : ∀ (l : List (List AV)) (a : Option Addr) (i : Nat), RepR C e l a i → RepR C' e l a i
  | [], a, i, h => h
  | r :: l, a, i, h => by
    obtain ⟨⟨ad, e1, e2, h1⟩, h2⟩ := h
    exact ⟨⟨ad, e1, e2, RepA.mono hx r ad (i * e) h1⟩, RepR.mono hx e l a (i + 1) h2⟩
theorem RepB.mono {C C' : Cx} (hx : Ext C C') : ∀ (l : List AV) (c : Array Value) (off : Nat) (F : Foot), RepB C l c off F → (∀ b, F b ≠ 0 → C'.w.heap[b]? = C.w.heap[b]?) → RepB C' l c off F
  | [], c, off, F, h, k => h
  | a :: l, c, off, F, h, k => by
    obtain ⟨u, F1, F2, e, o1, h1, h2, h3⟩ := h
    exact ⟨u, F1, F2, e, o1, Rep.mono hx a u F1 h1 (fun b hb => k b (by have := h3 b; omega)), RepB.mono hx l c (off + 1) F2 h2 (fun b hb => k b (by have := h3 b; omega)), h3⟩
theorem RepO.mono {C C' : Cx} (hx : Ext C C') (e : Nat) : ∀ (l : List (List AV)) (c : Array Value) (off : Nat) (F : Foot), RepO C e l c off F → (∀ b, F b ≠ 0 → C'.w.heap[b]? = C.w.heap[b]?) → RepO C' e l c off F
  | [], c, off, F, h, k => h
  | r :: l, c, off, F, h, k => by
    obtain ⟨F1, F2, e1, h1, h2, h3⟩ := h
    exact ⟨F1, F2, e1, RepB.mono hx r c off F1 h1 (fun b hb => k b (by have := h3 b; omega)), RepO.mono hx e l c (off + e) F2 h2 (fun b hb => k b (by have := h3 b; omega)), h3⟩
end
end Go.Av
