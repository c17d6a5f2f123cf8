/- Engine, part 20: from what a parameter reads as to an abstract value; from a promise to a row. -/
import Derived.Test.YtnhcchmbdkiodaaGreatAvU
import Derived.OpenShut
import Derived.Deep.Slices
import Derived.SizedLaws
set_option linter.unusedVariables false
set_option linter.unusedSimpArgs false
set_option autoImplicit false
namespace Go.Av
open Go.ChangeShapes Go.WideShapes Go.RowKit

def B0 {P : Program} [Known P] (W : World) (hx : Gx P W) : Base P := ⟨W, fun _ => True, fun _ => 0, 0, fun _ => default, fun b ⟨p, hp, hb⟩ => ⟨by obtain ⟨t, z, ht⟩ := hx.at_ p hp; rw [hb] at ht; exact (Array.getElem?_eq_some_iff.1 ht).1, rfl⟩, hx⟩
def C0 (W : World) : Cx := ⟨W, fun b => b < W.heap.size ∧ (0 : Nat) = 0 ∧ (True ∨ W.heap.size ≤ b ∨ (0 : Nat) ≠ 0), fun _ => default, 0⟩
theorem calls_row {P : Program} [Known P] {f : FuncId} {args : List AV} {b : Bool} (h : CallA P f args (.bool b)) {W : World} (hx : Gx P W) {vs : List Value} (hr : RepL (C0 W) args vs (fun _ => 0)) :
    Calls P f vs.toArray W (fun e w' => e = .returned (.bool b) ∧ Below W.heap.size W w') := by
  refine (h (B0 W hx) vs rfl (fun _ => Nat.zero_le _) (fun b hb => absurd rfl hb) hr (fun _ => rfl)).mono fun e w' ⟨r', h', ⟨hr', hh'⟩, v, mu', n', F', Fr, Fh, he, _, _, fin, _, hv, _⟩ => ?_
  subst he
  subst hr'
  refine ⟨by rw [hv.1], fin.os, fin.tape, fin.output, fin.size, fun k hk => fin.old k hk rfl⟩

/-- Whatever reads as a datum of the type T, and is not too large, reads as an abstract value. -/
def Opens {α : Type} (P : Program) [Known P] (T : TypeId) (f : α → List AV) (φ : α → Prop) : Prop :=
  ∀ (H : Type) (enc : TypeId × Value → H) (W : World) (fuel : Nat) (cs : List Value) (x : DataW H × List MemPlace),
    DataW.trod enc P W 0 (fun _ => true) true fuel T cs = some x → (∀ n ∈ x.1.weights P T, n ≤ lim) → ∃ y : α, RepL (C0 W) (f y) cs (fun _ => 0) ∧ (∀ v ∈ cs, v.oneCell' = true) ∧ φ y
theorem rep1 {C : Cx} {a : AV} {v : Value} (h : Rep C a v (fun _ => 0)) : RepL C [a] [v] (fun _ => 0) := ⟨v, [], _, _, rfl, h, ⟨rfl, fun _ => rfl⟩, fun _ => rfl⟩
theorem wf_wrap {k : IntKind} {n : Int} (h : (Lit.int k n).wf = true) : k.wrap n = n := by
  rw [wrap_iff]
  simp only [Lit.wf, Bool.and_eq_true, decide_eq_true_eq] at h
  cases k <;> simp [IntKind.signed, IntKind.bits, IntKind.min, IntKind.max] at h ⊢ <;> omega
theorem opens_int {P : Program} [Known P] {T : TypeId} {k : IntKind} (ht : P.underlying T = some (.int k)) : Opens P T (fun n => [.int k n]) (fun n => k.wrap n = n) := by
  intro H enc W fuel cs x h _
  obtain ⟨n, rfl, _, hw⟩ := DataW.trod_int ht h
  exact ⟨n, rep1 (rep_int (wf_wrap hw)), by intro v hv; simp at hv; subst hv; rfl, wf_wrap hw⟩
theorem opens_byte {P : Program} [Known P] {T : TypeId} (ht : P.underlying T = some (.int .u8)) : Opens P T byt (fun _ => True) := by
  intro H enc W fuel cs x h _
  obtain ⟨n, rfl, _, hw⟩ := DataW.trod_int ht h
  have hn : n = ((UInt8.ofNat n.toNat).toNat : Int) := by
    simp only [Lit.wf, Bool.and_eq_true, decide_eq_true_eq] at hw
    simp [IntKind.min, IntKind.max, IntKind.signed, IntKind.bits] at hw
    simp only [UInt8.toNat_ofNat']
    omega
  refine ⟨UInt8.ofNat n.toNat, ?_, by intro v hv; simp at hv; subst hv; rfl, trivial⟩
  unfold byt
  rw [← hn]
  exact rep1 (rep_int (wf_wrap hw))
theorem opens_bool {P : Program} [Known P] {T : TypeId} (ht : P.underlying T = some .bool) : Opens P T (fun b => [.bool b]) (fun _ => True) := by
  intro H enc W fuel cs x h _
  obtain ⟨b, rfl, _⟩ := DataW.trod_bool ht h
  exact ⟨b, rep1 ⟨rfl, fun _ => rfl⟩, by intro v hv; simp at hv; subst hv; rfl, trivial⟩
theorem opens_string {P : Program} [Known P] {T : TypeId} (ht : P.underlying T = some .string) : Opens P T (fun s => [.str s]) (fun s => s.size ≤ lim) := by
  intro H enc W fuel cs x h hw
  obtain ⟨s, rfl, rfl, hs⟩ := DataW.trod_string ht h
  have : s.size ≤ lim := hw s.size (by simp [DataW.weights])
  exact ⟨s, rep1 ⟨rfl, this, fun _ => rfl⟩, by intro v hv; simp at hv; subst hv; rfl, this⟩
theorem weightsAll_mem {H : Type} {P : Program} [Known P] {e : TypeId} : ∀ {l : List (DataW H)} {d : DataW H}, d ∈ l → ∀ n ∈ d.weights P e, n ∈ DataW.weightsAll P e l
  | _ :: l, d, hd, n, hn => by
    rw [DataW.weightsAll, List.mem_append]
    rcases List.mem_cons.1 hd with rfl | hd
    · exact .inl hn
    · exact .inr (weightsAll_mem hd n hn)
theorem RepA.of {C : Cx} : ∀ (l : List AV) (us : List Value) (ad : Addr) (j : Nat), RepL C l us (fun _ => 0) → C.ok ad.block → (∀ i u, us[i]? = some u → C.w.cell? (ad.add (j + i)) = some u) → (∀ u ∈ us, u.oneCell' = true) → RepA C l ad j
  | [], us, ad, j, h, _, _, _ => trivial
  | x :: l, us, ad, j, h, ho, hc, h1 => by
    obtain ⟨v, vs, F1, F2, rfl, k1, k2, k3⟩ := h
    obtain ⟨rfl, rfl⟩ := zero_split k3
    exact ⟨⟨ho, v, hc 0 v rfl, h1 v (by simp), k1⟩, RepA.of l vs ad (j + 1) k2 ho (fun i u hi => by have := hc (i + 1) u (by simpa using hi); rwa [show j + 1 + i = j + (i + 1) by omega]) (fun u hu => h1 u (by simp [hu]))⟩
theorem RepR.of {C : Cx} {e : Nat} {ad : Addr} : ∀ (l : List (List AV)) (i : Nat), (∀ j r, l[j]? = some r → r.length = e ∧ RepA C r ad ((i + j) * e)) → RepR C e l (some ad) i
  | [], i, h => trivial
  | r :: l, i, h => ⟨⟨ad, rfl, h 0 r rfl⟩, RepR.of l (i + 1) (fun j r hj => by have := h (j + 1) r (by simpa using hj); rwa [show i + 1 + j = i + (j + 1) by omega])⟩
theorem cells_len {w : World} {base : Nat} {a : Addr} {n : Nat} {cs : List Value} (h : w.cells? base a n = some cs) : cs.length = n := by
  unfold World.cells? at h
  split at h
  · have := mapM_some_length h
    simpa using this
  · cases h
theorem cells_at {w : World} {base : Nat} {a : Addr} {n : Nat} {cs : List Value} (h : w.cells? base a n = some cs) (i : Nat) (u : Value) (hu : cs[i]? = some u) : w.cell? (a.add i) = some u := by
  have hl := cells_len h
  have hi : i < n := by rw [← hl]; exact (List.getElem?_eq_some_iff.1 hu).1
  unfold World.cells? at h
  split at h
  · have := mapM_some_get h i i (by simp [hi])
    rw [this]; exact hu
  · cases h
theorem cell_block {w : World} {a : Addr} {u : Value} (h : w.cell? a = some u) : a.block < w.heap.size := by
  refine Classical.byContradiction fun hn => ?_
  unfold World.cell? at h
  rw [Array.getElem?_eq_none (by omega)] at h
  simp at h
theorem opens_slice {α : Type} {P : Program} [Known P] {t e : TypeId} {f : α → List AV} {φ : α → Prop} (d : List AV) (n : Nat) (ht : P.underlying t = some (.slice e)) (hc : P.cellsOf e = n) (hn : n ≠ 0) (hb : P.bytesOf e ≠ 0) (hd : Opens P e f φ) :
    Opens P t (fun l : List α => [.sl n (l.map f) d]) (fun l => l.length * P.bytesOf e ≤ lim ∧ ∀ x ∈ l, φ x) := by
  intro H enc W fuel cs x h hw
  rcases Go.Deep.open_slice ht h with ⟨rfl, _⟩ | ⟨a, len, cap, m, n', D, Pl, rfl, _, hl, hm, hmeq, rfl, hel⟩
  · exact ⟨[], rep1 ⟨⟨none, 0, rfl, Nat.le_refl _, Nat.zero_le _, trivial⟩, fun _ => rfl⟩, by intro v hv; simp at hv; subst hv; rfl, by simp, by simp⟩
  · have hlm : len ≤ m := by rw [hmeq]; simpa using hl
    subst hc
    have hwl : len * P.bytesOf e ≤ lim := by
      have := hw ((len + (m - len)) * P.bytesOf e) (by simp only [DataW.weights, ht, List.length_map, List.length_range]; simp)
      exact Nat.le_trans (Nat.mul_le_mul_right _ (by omega)) this
    have hwe : ∀ i, i < len → ∀ k ∈ (D i).weights P e, k ≤ lim := fun i hi k hk => hw k (by
      simp only [DataW.weights, ht, List.mem_cons, List.mem_append]
      exact .inr (.inl (weightsAll_mem (List.mem_map.2 ⟨i, by simpa using hi, rfl⟩) k hk)))
    have hex : ∀ i : _root_.Fin len, ∃ y : α, φ y ∧ ∃ c : List Value, c.length = P.cellsOf e ∧ RepL (C0 W) (f y) c (fun _ => 0) ∧ (∀ v ∈ c, v.oneCell' = true) ∧ ∀ j u, c[j]? = some u → W.cell? (a.add (i.1 * P.cellsOf e + j)) = some u := by
      intro i
      obtain ⟨c, h1, h2⟩ := hel i.1 (by omega)
      obtain ⟨y, hy, ho, hp⟩ := hd H enc W n' c _ h2 (hwe i.1 i.2)
      refine ⟨y, hp, c, cells_len h1, hy, ho, fun j u hu => ?_⟩
      have := cells_at h1 j u hu
      rwa [Go.Deep.add_add] at this
    let g : _root_.Fin len → α := fun i => Classical.choose (hex i)
    have hg : ∀ i : _root_.Fin len, φ (g i) ∧ ∃ c : List Value, c.length = P.cellsOf e ∧ RepL (C0 W) (f (g i)) c (fun _ => 0) ∧ (∀ v ∈ c, v.oneCell' = true) ∧ ∀ j u, c[j]? = some u → W.cell? (a.add (i.1 * P.cellsOf e + j)) = some u := fun i => Classical.choose_spec (hex i)
    have hlen : (List.ofFn g).length = len := List.length_ofFn
    have hlen2 : len ≤ lim := Nat.le_trans (Nat.le_mul_of_pos_right _ (Nat.pos_of_ne_zero hb)) hwl
    refine ⟨List.ofFn g, rep1 ⟨⟨some a, cap, by rw [List.length_map, hlen], by rw [List.length_map, hlen]; exact hl, by rw [List.length_map, hlen]; exact hlen2, RepR.of _ 0 fun j r hj => ?_⟩, fun _ => rfl⟩, by intro v hv; simp at hv; subst hv; rfl, by rw [hlen]; exact hwl, ?_⟩
    · rw [List.getElem?_map] at hj
      have hjl : j < len := by
        refine Classical.byContradiction fun hn => ?_
        rw [List.getElem?_eq_none (by omega)] at hj
        simp at hj
      have hr : r = f (g ⟨j, hjl⟩) := by
        rw [List.getElem?_eq_getElem (by omega)] at hj
        simpa using hj.symm
      obtain ⟨_, c, h1, h2, h3, h4⟩ := hg ⟨j, hjl⟩
      have hrl : r.length = P.cellsOf e := by rw [hr, ← RepL.length _ _ _ h2, h1]
      refine ⟨hrl, ?_⟩
      have hcb : a.block < W.heap.size := by
        have h0 : 0 < c.length := by omega
        have := cell_block (h4 0 _ (List.getElem?_eq_getElem h0))
        rwa [add_block] at this
      rw [Nat.zero_add, hr]
      exact RepA.of _ c a _ h2 ⟨hcb, rfl, .inl trivial⟩ h4 h3
    · intro x hx
      obtain ⟨i, rfl⟩ := List.mem_ofFn.1 hx
      exact (hg i).1
end Go.Av
