/- FnExactCelInput, the plain law: a cell that takes a number answers as the reference's. -/
import Derived.Test.YtinbciedkhjcmaaZ23
import Derived.Test.YtinbciedkhjcmaaZ10
import Derived.Test.YtinbciedkhjcmaaZ14
import Derived.Test.YtinbciedkhjcmaaZ6
import Derived.Test.YtinbciedkhjcmaaZ2
import Derived.Test.YtinbciedkhjcmaaZ7
import Derived.Test.YtinbciedkhjcmaaZ15
import Derived.Test.YtinbciedkhjcmaaZ8
import Derived.Test.YtinbciedkhjcmaaZ17
import Derived.Test.YtinbciedkhjcmaaZ19
import Derived.Test.YtinbciedkhjcmaaZ21
import Derived.Test.YtinbciedkhjcmaaZ20
import Derived.Test.YtinbciedkhjcmaaZ22
import Derived.Test.YtinbciedkhjcmaaGen
namespace Go.Proofs.Ytinbciedkhjcmaa.ZCelL
open Go.RowKit Go.Proofs.YtinbciedkhjcmaaW.PrintWords Go.Proofs.YtinbciedkhjcmaaW.PrintLast Go.Proofs.Ytinbciedkhjcmaa.Z Go.Proofs.Ytinbciedkhjcmaa.Gen
set_option linter.unusedVariables false
set_option linter.unusedSimpArgs false

theorem mark_loop (g : Int → Int) (n : Nat) (F : Nat → List Int → Int → Int → Option (Int × List Int))
    (hstep : ∀ k ys c (i : Nat), ys.length = n → i < n → 0 ≤ c → c < 1000000000000 → F (k + 1) ys c (i : Int) = F k (ys.set i (g c)) (c + 1) ((i + 1 : Nat) : Int))
    (hend : ∀ k ys c, ys.length = n → F (k + 1) ys c (n : Int) = some (c, ys)) :
    ∀ (d k i : Nat) (ys : List Int) (c : Int), d + i = n → d < k → ys.length = n → 0 ≤ c → c + d < 1000000000000 →
      ∃ m, m.length = n ∧ F k ys c (i : Int) = some (c + d, m) ∧ (∀ j, j < i → m.getD j 0 = ys.getD j 0) ∧ (∀ j, i ≤ j → j < n → m.getD j 0 = g (c + ((j - i : Nat) : Int))) := by
  intro d
  induction d with
  | zero =>
    intro k i ys c hd hk hl h0 h1
    obtain ⟨k, rfl⟩ : ∃ m, k = m + 1 := ⟨k - 1, by omega⟩
    obtain rfl : i = n := by omega
    exact ⟨ys, hl, by rw [hend k ys c hl]; simp, fun _ _ => rfl, fun j h2 h3 => by omega⟩
  | succ d ih =>
    intro k i ys c hd hk hl h0 h1
    obtain ⟨k, rfl⟩ : ∃ m, k = m + 1 := ⟨k - 1, by omega⟩
    obtain ⟨m, hm, hF, ha, hb⟩ := ih k (i + 1) (ys.set i (g c)) (c + 1) (by omega) (by omega) (by simp [hl]) (by omega) (by omega)
    refine ⟨m, hm, ?_, ?_, ?_⟩
    · rw [hstep k ys c i hl (by omega) h0 (by omega), hF]
      congr 2; omega
    · intro j hj
      rw [ha j (by omega)]
      simp only [List.getD_eq_getElem?_getD]
      rw [List.getElem?_set_ne (by omega)]
    · intro j h2 h3
      by_cases e : j = i
      · subst e
        rw [ha j (by omega)]
        simp only [List.getD_eq_getElem?_getD]
        rw [List.getElem?_set_self (by omega)]
        simp
      · rw [hb j (by omega) h3]
        congr 1; omega
theorem held_loop (g : Int → Int) (m : List Int) (F : Nat → Int → Int → Option Int)
    (hstep : ∀ k c (i : Nat), i < m.length → 0 ≤ c → c < 1000000000000 → m.getD i 0 = g c → F (k + 1) c (i : Int) = F k (c + 1) ((i + 1 : Nat) : Int))
    (hend : ∀ k c, F (k + 1) c (m.length : Int) = some c) :
    ∀ (d k i : Nat) (c : Int), d + i = m.length → d < k → 0 ≤ c → c + d < 1000000000000 → (∀ j, i ≤ j → j < m.length → m.getD j 0 = g (c + ((j - i : Nat) : Int))) →
      F k c (i : Int) = some (c + d) := by
  intro d
  induction d with
  | zero =>
    intro k i c hd hk h0 h1 hg
    obtain ⟨k, rfl⟩ : ∃ m, k = m + 1 := ⟨k - 1, by omega⟩
    obtain rfl : i = m.length := by omega
    rw [hend]; simp
  | succ d ih =>
    intro k i c hd hk h0 h1 hg
    obtain ⟨k, rfl⟩ : ∃ m, k = m + 1 := ⟨k - 1, by omega⟩
    have := hg i (by omega) (by omega)
    rw [Nat.sub_self] at this
    rw [hstep k c i (by omega) h0 (by omega) (by simpa using this), ih k (i + 1) (c + 1) (by omega) (by omega) (by omega) (by omega)]
    · congr 1; omega
    · intro j h2 h3
      rw [hg j (by omega) h3]; congr 1; omega

theorem mark_int (l : List Int) (hl : l.length ≤ 2000000) (c : Int) (h0 : 0 ≤ c) (h1 : c ≤ 100000000) (k : Nat) (hk : l.length < k) :
    ∃ m, m.length = l.length ∧ laws_markIntS.f k l c = some (c + l.length, m) ∧ ∀ k, l.length < k → laws_heldIntS.f k m c = some (c + l.length) := by
  unfold laws_markIntS.f laws_heldIntS.f
  obtain ⟨m, hm, hF, _, hb⟩ := mark_loop (fun x => x) l.length (fun k ys c i => laws_markIntS.l0 k ys c i) (by
    intro k ys c i hy hi hc hc2
    simp only [laws_markIntS.l0]
    rw [if_pos (by omega), if_pos (by omega), w64 _ (by omega) (by omega), w64 _ (by omega) (by omega)]
    rfl) (by
    intro k ys c hy
    simp only [laws_markIntS.l0]
    rw [if_neg (by omega)]) l.length k 0 l c (by omega) hk rfl h0 (by omega)
  refine ⟨m, hm, hF, fun k hk => ?_⟩
  have := held_loop (fun x => x) m (fun k c i => laws_heldIntS.l0 k m c i) (by
    intro k c i hi hc hc2 hg
    simp only [laws_heldIntS.l0]
    rw [if_pos (by omega), if_pos (by omega), if_pos (by simpa [rd] using hg), w64 _ (by omega) (by omega), w64 _ (by omega) (by omega)]
    rfl) (by
    intro k c
    simp only [laws_heldIntS.l0]
    rw [if_neg (by omega)]) l.length k 0 c (by omega) hk h0 (by omega) (by rw [hm]; exact hb)
  exact this
theorem mark_byte (l : List Int) (hl : l.length ≤ 2000000) (c : Int) (h0 : 0 ≤ c) (h1 : c ≤ 100000000) (k : Nat) (hk : l.length < k) :
    ∃ m, m.length = l.length ∧ laws_markByteS.f k l c = some (c + l.length, m) ∧ ∀ k, l.length < k → laws_heldByteS.f k m c = some (c + l.length) := by
  unfold laws_markByteS.f laws_heldByteS.f
  obtain ⟨m, hm, hF, _, hb⟩ := mark_loop (fun x => x % 256) l.length (fun k ys c i => laws_markByteS.l0 k ys c i) (by
    intro k ys c i hy hi hc hc2
    simp only [laws_markByteS.l0]
    rw [if_pos (by omega), if_pos (by omega), w64 _ (by omega) (by omega), w64 _ (by omega) (by omega)]
    rfl) (by
    intro k ys c hy
    simp only [laws_markByteS.l0]
    rw [if_neg (by omega)]) l.length k 0 l c (by omega) hk rfl h0 (by omega)
  refine ⟨m, hm, hF, fun k hk => ?_⟩
  have := held_loop (fun x => x % 256) m (fun k c i => laws_heldByteS.l0 k m c i) (by
    intro k c i hi hc hc2 hg
    simp only [laws_heldByteS.l0]
    rw [if_pos (by omega), if_pos (by omega), if_pos (by simpa [rd] using hg), w64 _ (by omega) (by omega), w64 _ (by omega) (by omega)]
    rfl) (by
    intro k c
    simp only [laws_heldByteS.l0]
    rw [if_neg (by omega)]) l.length k 0 c (by omega) hk h0 (by omega) (by rw [hm]; exact hb)
  exact this
theorem to_int (l : List Int) (hl : l.length ≤ 2000000) (k : Nat) (hk : l.length < k) : laws_toIntS.f k l = some l := by
  unfold laws_toIntS.f
  rw [if_pos (by omega), if_pos (by omega)]
  have := copy_loop (fun x => x) (0 : Int) l (fun k ys i => laws_toIntS.l0 k l ys i) ?_ ?_ l.length k 0 (List.replicate ((l.length : Int) : Int).toNat 0) (by omega) hk (by simp) (by intro j hj; omega)
  · rw [List.map_id'] at this; exact this
  · intro k ys i hi hy
    simp only [laws_toIntS.l0]
    rw [if_pos (by omega), if_pos (by omega), if_pos (by omega), w64 _ (by omega) (by omega)]
    rfl
  · intro k ys
    simp only [laws_toIntS.l0]
    rw [if_neg (by omega)]
theorem to_byte (l : List Int) (hl : l.length ≤ 2000000) (k : Nat) (hk : l.length < k) : laws_toByteS.f k l = some l := by
  unfold laws_toByteS.f
  rw [if_pos (by omega), if_pos (by omega)]
  have := copy_loop (fun x => x) (0 : Int) l (fun k ys i => laws_toByteS.l0 k l ys i) ?_ ?_ l.length k 0 (List.replicate ((l.length : Int) : Int).toNat 0) (by omega) hk (by simp) (by intro j hj; omega)
  · rw [List.map_id'] at this; exact this
  · intro k ys i hi hy
    simp only [laws_toByteS.l0]
    rw [if_pos (by omega), if_pos (by omega), if_pos (by omega), w64 _ (by omega) (by omega)]
    rfl
  · intro k ys
    simp only [laws_toByteS.l0]
    rw [if_neg (by omega)]
theorem eq_int (l : List Int) (hl : l.length ≤ 2000000) (k : Nat) (hk : l.length < k) : laws_eqIntS.f k l l = some true := by
  unfold laws_eqIntS.f
  rw [if_pos rfl]
  have := all_loop (fun _ => true) (0 : Int) l (fun k i => laws_eqIntS.l0 k l l i) ?_ ?_ l.length k 0 (by omega) hk
  · have e : l.all (fun _ => true) = true := by simp [List.all_eq_true]
    rw [List.drop_zero, e] at this
    exact this
  · intro k i hi
    simp only [laws_eqIntS.l0, if_true]
    rw [if_pos (by omega), if_pos (by omega), if_pos (by omega), w64 _ (by omega) (by omega)]
    rfl
  · intro k
    simp only [laws_eqIntS.l0]
    rw [if_neg (by omega)]
theorem eq_byte (l : List Int) (hl : l.length ≤ 2000000) (k : Nat) (hk : l.length < k) : laws_eqByteS.f k l l = some true := by
  unfold laws_eqByteS.f
  rw [if_pos rfl]
  have := all_loop (fun _ => true) (0 : Int) l (fun k i => laws_eqByteS.l0 k l l i) ?_ ?_ l.length k 0 (by omega) hk
  · have e : l.all (fun _ => true) = true := by simp [List.all_eq_true]
    rw [List.drop_zero, e] at this
    exact this
  · intro k i hi
    simp only [laws_eqByteS.l0, if_true]
    rw [if_pos (by omega), if_pos (by omega), if_pos (by omega), w64 _ (by omega) (by omega)]
    rfl
  · intro k
    simp only [laws_eqByteS.l0]
    rw [if_neg (by omega)]

theorem in_rng (a lo hi : Int) : spec_l1In.f a lo hi = some (decide (lo ≤ a ∧ a ≤ hi)) := by
  unfold spec_l1In.f
  by_cases h : a ≥ lo
  · rw [if_pos h]; congr 1; rw [Bool.eq_iff_iff]; simp; omega
  · rw [if_neg h]; congr 1; symm; simp; omega
theorem bytes_ok (l : List Int) (n : Int) (hn : n ≤ 100) (k : Nat) (hk : 200 ≤ k) : spec_l6Bytes.f k l n = some (decide ((l.length : Int) = n) && impl_VmOk.all l) := by
  unfold spec_l6Bytes.f
  by_cases h : (l.length : Int) = n
  · rw [if_pos h]
    have := all_loop (fun x => decide (0 ≤ x ∧ x ≤ 255)) (0 : Int) l (fun k i => spec_l6Bytes.l0 k l i) ?_ ?_ l.length k 0 (by omega) (by omega)
    · rw [List.drop_zero] at this
      rw [decide_eq_true h, Bool.true_and]; exact this
    · intro k i hi
      simp only [spec_l6Bytes.l0, in_rng, Option.bind_some]
      rw [if_pos (by omega), if_pos (by omega), w64 _ (by omega) (by omega)]
      rfl
    · intro k
      simp only [spec_l6Bytes.l0]
      rw [if_neg (by omega)]
  · rw [if_neg h]; simp [h]
def okB (a : Int) (l1 l2 : List Int) (b : Int) : Bool := decide (0 ≤ a ∧ a ≤ 24 ∧ l1.length = 4 ∧ l2.length = 8) && (impl_VmOk.all l1 && (impl_VmOk.all l2 && decide (b = 0 ∨ b = 1 ∨ b = 2)))
theorem spec_vm (a : Int) (l1 l2 : List Int) (b : Int) (k : Nat) (hk : 200 ≤ k) : spec_VmOk.f k a l1 l2 b = some (okB a l1 l2 b) := by
  unfold spec_VmOk.f okB
  simp only [in_rng, Option.bind_some, bytes_ok _ 4 (by omega) k hk, bytes_ok _ 8 (by omega) k hk]
  by_cases h1 : 0 ≤ a ∧ a ≤ 24
  · by_cases h2 : l1.length = 4
    · by_cases h3 : l2.length = 8
      · have e : decide (b = 0 ∨ b = 1 ∨ b = 2) = decide (0 ≤ b ∧ b ≤ 2) := by rw [Bool.eq_iff_iff]; simp; omega
        rw [e]
        cases impl_VmOk.all l1 <;> cases impl_VmOk.all l2 <;> simp [h1, h2, h3]
      · have e : ¬ ((l2.length : Int) = 8) := by omega
        cases impl_VmOk.all l1 <;> simp [h1, h2, h3, e]
    · have e : ¬ ((l1.length : Int) = 4) := by omega
      simp [h1, h2, e]
  · have e : decide (0 ≤ a ∧ a ≤ 24 ∧ l1.length = 4 ∧ l2.length = 8) = false := by rw [decide_eq_false_iff_not]; omega
    rw [e]; simp [h1]
/-- What is answered. -/
def inp (a : Int) (l1 l2 : List Int) (b : Int) (l4 : List Int) (n : Int) : Int × List Int × List Int × Int × List Int × Bool :=
  if (okB a l1 l2 b && decide (l4.length ≤ 6)) && decide (0 ≤ n ∧ n ≤ 255) then (if 6 ≤ l4.length then (a, l1, l2, b, l4, false) else (a, l1, l2, b, l4 ++ [n % 256], true)) else (0, [], [], 0, [], false)
theorem okB_len {a : Int} {l1 l2 : List Int} {b : Int} (h : okB a l1 l2 b = true) : l1.length = 4 ∧ l2.length = 8 := by
  unfold okB at h
  simp only [Bool.and_eq_true, decide_eq_true_eq] at h
  exact ⟨h.1.2.2.1, h.1.2.2.2⟩
theorem spec_inp (a : Int) (l1 l2 : List Int) (b : Int) (l4 : List Int) (n : Int) (k : Nat) (hk : 200 ≤ k) : spec_CelInput.f k a l1 l2 b l4 n = some (inp a l1 l2 b l4 n) := by
  obtain ⟨k, rfl⟩ : ∃ m, k = m + 1 := ⟨k - 1, by omega⟩
  unfold spec_CelInput.f spec_CelOk.f inp
  rw [spec_vm _ _ _ _ _ hk]
  simp only [in_rng, Option.bind_some, spec_CelInput.j0]
  rcases ho : okB a l1 l2 b with _ | _
  · simp
  · obtain ⟨e1, e2⟩ := okB_len ho
    by_cases h6 : l4.length ≤ 6
    · by_cases hn : 0 ≤ n ∧ n ≤ 255
      · have hd : decide ((l4.length : Int) ≤ 6) = true := decide_eq_true (by omega)
        simp only [if_true, Option.bind_some, hd, hn, decide_true, Bool.not_true, Bool.false_eq_true, if_false, and_self, h6, Bool.and_self]
        simp only [spec_l14Copy.f, spec_l6Copy.f, spec_l2Copy.f, Option.bind_some, List.length_nil, List.nil_append]
        rw [if_pos (by omega)]
        try simp only [Option.bind_some]
        rw [if_pos (by omega)]
        try simp only [Option.bind_some]
        rw [if_pos (by omega)]
        try simp only [Option.bind_some]
        by_cases h7 : 6 ≤ l4.length
        · rw [if_pos (by omega), if_pos h7]
        · rw [if_neg (by omega), if_neg h7, if_pos (by omega)]
      · have hd : decide ((l4.length : Int) ≤ 6) = true := decide_eq_true (by omega)
        simp [hd, hn]
    · have hd : decide ((l4.length : Int) ≤ 6) = false := decide_eq_false (by omega)
      simp [hd, h6]
theorem vb (x : Int) : impl_vmByte.f x = some (decide (0 ≤ x ∧ x ≤ 255)) := by
  unfold impl_vmByte.f; split
  · next h => congr 1; rw [decide_eq_decide]; omega
  · next h => congr 1; symm; rw [decide_eq_false_iff_not]; omega
theorem impl_inp (a : Int) (l1 l2 : List Int) (b : Int) (l4 : List Int) (n : Int) (k : Nat) (hk : 200 ≤ k) : impl_CelInput.f k a l1 l2 b l4 n = some (inp a l1 l2 b l4 n) := by
  obtain ⟨k, rfl⟩ : ∃ m, k = m + 1 := ⟨k - 1, by omega⟩
  have hv : impl_VmOk.f a l1 l2 b = some (okB a l1 l2 b) := rfl
  unfold impl_CelInput.f impl_CelOk.f inp
  rw [hv]
  simp only [vb, Option.bind_some, impl_CelInput.j0]
  rcases ho : okB a l1 l2 b with _ | _
  · simp
  · obtain ⟨e1, e2⟩ := okB_len ho
    by_cases h6 : l4.length ≤ 6
    · by_cases hn : 0 ≤ n ∧ n ≤ 255
      · have hd : decide ((l4.length : Int) ≤ 6) = true := decide_eq_true (by omega)
        simp only [if_true, Option.bind_some, hd, hn, decide_true, Bool.not_true, Bool.false_eq_true, if_false, and_self, h6, Bool.and_self]
        simp only [impl_celCopy.f, impl_vmCopy.f, impl_vmNumbers.f, impl_bytCopy.f]
        rw [if_pos (by omega), if_pos (by omega), if_pos (by omega)]
        simp only [Option.bind_some]
        by_cases h7 : 6 ≤ l4.length
        · rw [if_pos (by omega), if_pos h7]
        · rw [if_neg (by omega), if_neg h7, if_pos (by omega)]
      · have hd : decide ((l4.length : Int) ≤ 6) = true := decide_eq_true (by omega)
        simp [hd, hn]
    · have hd : decide ((l4.length : Int) ≤ 6) = false := decide_eq_false (by omega)
      simp [hd, h6]

theorem to_cel (a : Int) (l1 l2 : List Int) (b : Int) (l4 : List Int) (h1 : l1.length ≤ 2000000) (h2 : l2.length ≤ 2000000) (h4 : l4.length ≤ 2000000) (k : Nat) (hk : 2000010 ≤ k) :
    laws_toCelCell.f k a l1 l2 b l4 = some (a, l1, l2, b, l4) := by
  unfold laws_toCelCell.f laws_toVmState.f
  rw [to_int l1 h1 k (by omega), to_int l2 h2 k (by omega), to_byte l4 h4 k (by omega)]
  rfl
theorem eq_cel (a : Int) (l1 l2 : List Int) (b : Int) (l4 : List Int) (h1 : l1.length ≤ 2000000) (h2 : l2.length ≤ 2000000) (h4 : l4.length ≤ 2000000) (k : Nat) (hk : 2000010 ≤ k) :
    laws_eqCelCell.f k a l1 l2 b l4 a l1 l2 b l4 = some true := by
  unfold laws_eqCelCell.f laws_eqVmState.f
  rw [eq_int l1 h1 k (by omega), eq_int l2 h2 k (by omega), eq_byte l4 h4 k (by omega)]
  simp
theorem mark_cel (a : Int) (l1 l2 : List Int) (b : Int) (l4 : List Int) (h1 : l1.length ≤ 2000000) (h2 : l2.length ≤ 2000000) (h4 : l4.length ≤ 2000000) (k : Nat) (hk : 2000010 ≤ k) :
    ∃ m1 m2 m4 N, 0 ≤ N ∧ laws_markCelCell.f k a l1 l2 b l4 1 = some (N, m1, m2, m4) ∧ ∀ k, 2000010 ≤ k → laws_heldCelCell.f k a m1 m2 b m4 1 = some N := by
  obtain ⟨m1, e1, f1, g1⟩ := mark_int l1 h1 1 (by omega) (by omega) k (by omega)
  obtain ⟨m2, e2, f2, g2⟩ := mark_int l2 h2 (1 + l1.length) (by omega) (by omega) k (by omega)
  obtain ⟨m4, e4, f4, g4⟩ := mark_byte l4 h4 (1 + l1.length + l2.length) (by omega) (by omega) k (by omega)
  refine ⟨m1, m2, m4, 1 + l1.length + l2.length + l4.length, by omega, ?_, fun k hk => ?_⟩
  · unfold laws_markCelCell.f laws_markVmState.f
    rw [f1]; simp only [Option.bind_some]; rw [f2]; simp only [Option.bind_some]; rw [f4]; rfl
  · unfold laws_heldCelCell.f laws_heldVmState.f
    rw [g1 k (by omega)]; simp only [Option.bind_some]; rw [if_neg (by omega), g2 k (by omega)]; simp only [Option.bind_some]; rw [if_neg (by omega)]; simp only [Option.bind_some]; rw [if_neg (by omega), g4 k (by omega)]; simp only [Option.bind_some]; rw [if_neg (by omega)]
theorem sz_cel (a : Int) (l1 l2 : List Int) (b : Int) (l4 : List Int) (h1 : l1.length ≤ maxLen) (h2 : l2.length ≤ maxLen) (h4 : l4.length ≤ maxLen) :
    ∃ n, laws_szCelCell.f a l1 l2 b l4 1048576 = some n ∧ (n < 0 ∨ (l1.length ≤ 1048576 ∧ l2.length ≤ 1048576 ∧ l4.length ≤ 1048576)) := by
  unfold maxLen at h1 h2 h4
  unfold laws_szCelCell.f laws_szVmState.f laws_szIntS.f laws_szByteS.f
  rw [w64 (1048576 - (l1.length : Int)) (by omega) (by omega)]
  by_cases c1 : (1048576 : Int) - l1.length < 0
  · rw [if_pos c1]; exact ⟨-1, by simp, .inl (by omega)⟩
  rw [if_neg c1]; simp only [Option.bind_some]; rw [if_neg c1, w64 (1048576 - (l1.length : Int) - l2.length) (by omega) (by omega)]
  by_cases c2 : (1048576 : Int) - l1.length - l2.length < 0
  · rw [if_pos c2]; exact ⟨-1, by simp, .inl (by omega)⟩
  rw [if_neg c2]; simp only [Option.bind_some]; rw [if_neg c2]; simp only [Option.bind_some]; rw [if_neg c2, w64 (1048576 - (l1.length : Int) - l2.length - l4.length) (by omega) (by omega)]
  by_cases c4 : (1048576 : Int) - l1.length - l2.length - l4.length < 0
  · rw [if_pos c4]; exact ⟨-1, by simp, .inl (by omega)⟩
  rw [if_neg c4]; simp only [Option.bind_some]; rw [if_neg c4]
  exact ⟨_, rfl, .inr ⟨by omega, by omega, by omega⟩⟩
theorem inp_len (a : Int) (l1 l2 : List Int) (b : Int) (l4 : List Int) (n : Int) (h1 : l1.length ≤ 1048576) (h2 : l2.length ≤ 1048576) (h4 : l4.length ≤ 1048576) :
    (inp a l1 l2 b l4 n).2.1.length ≤ 2000000 ∧ (inp a l1 l2 b l4 n).2.2.1.length ≤ 2000000 ∧ (inp a l1 l2 b l4 n).2.2.2.2.1.length ≤ 2000000 := by
  unfold inp
  split
  · split
    · exact ⟨by simp only []; omega, by simp only []; omega, by simp only []; omega⟩
    · exact ⟨by simp only []; omega, by simp only []; omega, by simp only [List.length_append, List.length_cons, List.length_nil]; omega⟩
  · exact ⟨by simp, by simp, by simp⟩

theorem law (a : Int) (l1 l2 : List Int) (b : Int) (l4 : List Int) (n : Int) (h1 : l1.length ≤ maxLen) (h2 : l2.length ≤ maxLen) (h4 : l4.length ≤ maxLen) :
    ∃ k, laws_FnExactCelInput.f k a l1 l2 b l4 n = some true := by
  obtain ⟨s, hs, hc⟩ := sz_cel a l1 l2 b l4 h1 h2 h4
  refine ⟨3000003, ?_⟩
  unfold laws_FnExactCelInput.f
  rw [hs]
  simp only [Option.bind_some]
  by_cases c : s < 0
  · rw [if_pos c]
  rw [if_neg c]
  obtain ⟨b1, b2, b4⟩ := hc.resolve_left c
  have T : ∀ k, 2000010 ≤ k → laws_toCelCell.f k a l1 l2 b l4 = some (a, l1, l2, b, l4) := fun k hk => to_cel a l1 l2 b l4 (by omega) (by omega) (by omega) k hk
  have E : ∀ k, 2000010 ≤ k → laws_eqCelCell.f k a l1 l2 b l4 a l1 l2 b l4 = some true := fun k hk => eq_cel a l1 l2 b l4 (by omega) (by omega) (by omega) k hk
  obtain ⟨x1, x2, x4, X, hX, hXm, _⟩ := mark_cel a l1 l2 b l4 (by omega) (by omega) (by omega) 3000002 (by omega)
  have I : ∀ k, 2000010 ≤ k → impl_CelInput.f k a l1 l2 b l4 n = some (inp a l1 l2 b l4 n) := fun k hk => impl_inp a l1 l2 b l4 n k (by omega)
  have S := spec_inp a l1 l2 b l4 n 3000003 (by omega)
  obtain ⟨d1, d2, d4⟩ := inp_len a l1 l2 b l4 n b1 b2 b4
  generalize inp a l1 l2 b l4 n = v at I S d1 d2 d4
  obtain ⟨va, v1, v2, vb, v4, vf⟩ := v
  simp only [] at d1 d2 d4
  have EV : ∀ k, 2000010 ≤ k → laws_eqCelCell.f k va v1 v2 vb v4 va v1 v2 vb v4 = some true := fun k hk => eq_cel va v1 v2 vb v4 d1 d2 d4 k hk
  obtain ⟨y1, y2, y4, Y, hY, hYm, hYh⟩ := mark_cel va v1 v2 vb v4 d1 d2 d4 3000001 (by omega)
  rw [T 3000003 (by omega)]
  simp only [Option.bind_some]
  rw [S]
  simp only [Option.bind_some]
  rw [I 3000003 (by omega)]
  simp only [Option.bind_some]
  rw [EV 3000003 (by omega)]
  simp only [Option.bind_some, if_true, bne_self_eq_false]
  rw [show (3000003 : Nat) = 3000002 + 1 from rfl]
  simp only [laws_FnExactCelInput.j0]
  rw [if_neg (by simp), T 3000002 (by omega)]
  simp only [Option.bind_some]
  rw [E 3000002 (by omega)]
  simp only [Option.bind_some, if_true]
  rw [hXm]
  simp only [Option.bind_some]
  rw [if_neg (by omega), EV 3000002 (by omega)]
  simp only [Option.bind_some, if_true, bne_self_eq_false]
  rw [show (3000002 : Nat) = 3000001 + 1 from rfl]
  simp only [laws_FnExactCelInput.j1]
  rw [if_neg (by simp), hYm]
  simp only [Option.bind_some]
  rw [hYh 3000001 (by omega)]
  simp only [Option.bind_some]
  rw [if_neg (by omega), if_pos (by trivial), T 3000001 (by omega)]
  simp only [Option.bind_some]
  rw [I 3000001 (by omega)]
  simp only [Option.bind_some]
  rw [EV 3000001 (by omega)]
  simp only [Option.bind_some, if_true, bne_self_eq_false]
  rw [show (3000001 : Nat) = 3000000 + 1 from rfl]
  simp only [laws_FnExactCelInput.j2]
  rw [if_neg (by simp), hYh 3000000 (by omega)]
  simp only [Option.bind_some]
  rw [if_neg (by omega), if_pos (by trivial)]
end Go.Proofs.Ytinbciedkhjcmaa.ZCelL
