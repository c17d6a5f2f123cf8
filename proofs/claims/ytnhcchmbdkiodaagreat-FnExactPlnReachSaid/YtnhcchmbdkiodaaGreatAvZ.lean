/- Engine, part 23: structs that come in; rows. -/
import Derived.Test.YtnhcchmbdkiodaaGreatAvY
set_option linter.unusedVariables false
set_option linter.unusedSimpArgs false
set_option autoImplicit false
namespace Go.Av
open Go.ChangeShapes Go.WideShapes Go.RowKit

def OpensF {α : Type} (P : Program) [Known P] (fs : Array Field) (n j off : Nat) (f : α → List AV) (φ : α → Prop) : Prop :=
  ∀ (H : Type) (enc : TypeId × Value → H) (W : World) (m : Nat) (cs : List Value) (xs : List (DataW H × List MemPlace)), cs.length = n → xs.length = fs.size →
    (∀ (i : Nat) (fd : Field), fs[i]? = some fd → DataW.trod enc P W 0 (fun _ => true) true m fd.type ((cs.drop fd.offset).take (P.cellsOf fd.type)) = xs[i]?) →
    (∀ (i : Nat) (fd : Field) x, fs[i]? = some fd → xs[i]? = some x → ∀ k ∈ x.1.weights P fd.type, k ≤ lim) →
    ∃ y : α, RepL (C0 W) (f y) (cs.drop off) (fun _ => 0) ∧ (∀ v ∈ cs.drop off, v.oneCell' = true) ∧ φ y
theorem OpensF.nil {P : Program} [Known P] {fs : Array Field} {n j off : Nat} (h : n ≤ off) : OpensF P fs n j off (fun _ : Unit => []) (fun _ => True) := by
  intro H enc W m cs xs hl _ _ _
  rw [List.drop_of_length_le (by omega)]
  exact ⟨(), ⟨rfl, fun _ => rfl⟩, by simp, trivial⟩
theorem RepL.join {C : Cx} : ∀ (l l' : List AV) (us us' : List Value), RepL C l us (fun _ => 0) → RepL C l' us' (fun _ => 0) → RepL C (l ++ l') (us ++ us') (fun _ => 0)
  | [], l', us, us', h, h' => by obtain ⟨rfl, _⟩ := h; exact h'
  | x :: l, l', us, us', h, h' => by
    obtain ⟨v, vs, F1, F2, rfl, k1, k2, k3⟩ := h
    obtain ⟨rfl, rfl⟩ := zero_split k3
    exact ⟨v, vs ++ us', _, _, rfl, k1, RepL.join l l' vs us' k2 h', fun _ => rfl⟩
theorem OpensF.cons {α β : Type} {P : Program} [Known P] {fs : Array Field} {n j off k t : Nat} {f : α → List AV} {φ : α → Prop} {g : β → List AV} {ψ : β → Prop} (hf : (fs[j]?).map (fun fd => (fd.type, fd.offset)) = some (t, off)) (hc : P.cellsOf t = k)
    (hd : Opens P t f φ) (hr : OpensF P fs n (j + 1) (off + k) g ψ) : OpensF P fs n j off (fun y : α × β => f y.1 ++ g y.2) (fun y => φ y.1 ∧ ψ y.2) := by
  intro H enc W m cs xs hl hx ht hw
  obtain ⟨fd, hfd, he⟩ := Option.map_eq_some_iff.1 hf
  simp only [Prod.mk.injEq] at he
  obtain ⟨rfl, rfl⟩ := he
  have hj : j < xs.length := by
    rw [hx]
    exact (Array.getElem?_eq_some_iff.1 hfd).1
  have h1 := ht j fd hfd
  rw [List.getElem?_eq_getElem hj] at h1
  obtain ⟨y, r1, r2, r3⟩ := hd H enc W m _ _ h1 (hw j fd _ hfd (List.getElem?_eq_getElem hj))
  obtain ⟨z, s1, s2, s3⟩ := hr H enc W m cs xs hl hx ht hw
  rw [hc] at r1 r2
  have e : cs.drop fd.offset = (cs.drop fd.offset).take k ++ cs.drop (fd.offset + k) := by
    rw [← List.drop_drop, List.take_append_drop]
  refine ⟨(y, z), ?_, ?_, r3, s3⟩
  · rw [e]; exact RepL.join _ _ _ _ r1 s1
  · intro v hv
    rw [e, List.mem_append] at hv
    exact hv.elim (r2 v) (s2 v)
theorem opens_struct {α : Type} {P : Program} [Known P] {T n : Nat} {fs : Array Field} {f : α → List AV} {φ : α → Prop} (ht : P.underlying T = some (.struct fs)) (hn : P.cellsOf T = n) (h : OpensF P fs n 0 0 f φ) : Opens P T f φ := by
  intro H enc W fuel cs x hx hw
  obtain ⟨xs, m, rfl, rfl, hl, hxl, hf⟩ := DataW.trod_struct ht hx
  refine h H enc W m cs xs (hl.trans hn) hxl hf fun i fd x hi hxi k hk => hw k ?_
  simp only [DataW.weights, ht]
  refine DataW.weights_mem_each (j := i) (t := fd.type) (d := x.1) ?_ ?_ k hk
  · rw [List.getElem?_map, Array.getElem?_toList, hi]; rfl
  · rw [List.getElem?_map, hxi]; rfl
/-- A parameter that is a struct: one value. -/
theorem rep_struct {C : Cx} {l : List AV} {cs : Array Value} (h : RepL C l cs.toList (fun _ => 0)) : RepL C [.agg l] [.agg cs] (fun _ => 0) := ⟨_, [], _, _, rfl, ⟨cs.toList, by simp, h⟩, ⟨rfl, fun _ => rfl⟩, fun _ => rfl⟩
theorem RepL.join1 {C : Cx} {x : AV} {l : List AV} {u : Value} {us : List Value} (h : RepL C [x] [u] (fun _ => 0)) (h' : RepL C l us (fun _ => 0)) : RepL C (x :: l) (u :: us) (fun _ => 0) := RepL.join [x] l [u] us h h'
end Go.Av
