/- Plain law: what is drawn for labels is drawn, whatever the code (no panic, no end of rounds). -/
import Derived.Test.YtffbdnnmpopieaaY13
import Derived.Test.YtffbdnnmpopieaaY10
import Derived.Test.YtffbdnnmpopieaaY11
import Derived.Test.YtffbdnnmpopieaaY12
import Derived.Laws.BitsLemmas
import Derived.IntWalk
namespace Go.Proofs.Ytffbdnnmpopieaa.YDrawL
open Go.RowKit Go.Proofs.YtffbdnnmpopieaaW.PrintWords Go.Proofs.YtffbdnnmpopieaaW.PrintLast Go.Proofs.Ytffbdnnmpopieaa.Y
set_option linter.unusedVariables false

theorem xor_nn (a b : Int) (ha : 0 ≤ a) (ha1 : a < 2 ^ 62) (hb : 0 ≤ b) (hb1 : b < 2 ^ 62) : 0 ≤ Go.bits .xor .i64 a b := by
  obtain ⟨x, rfl⟩ := Int.eq_ofNat_of_zero_le ha
  obtain ⟨y, rfl⟩ := Int.eq_ofNat_of_zero_le hb
  have hx : x < 2 ^ 62 := by exact_mod_cast ha1
  have hy : y < 2 ^ 62 := by exact_mod_cast hb1
  have h1 : (BitVec.ofInt 64 (x : Int)).toNat = x := by
    rw [BitVec.ofInt_natCast, BitVec.toNat_ofNat]; exact Nat.mod_eq_of_lt (by omega)
  have h2 : (BitVec.ofInt 64 (y : Int)).toNat = y := by
    rw [BitVec.ofInt_natCast, BitVec.toNat_ofNat]; exact Nat.mod_eq_of_lt (by omega)
  have h3 : x ^^^ y < 2 ^ 62 := Nat.xor_lt_two_pow hx hy
  show 0 ≤ IntKind.i64.wrap ((BitVec.ofInt 64 (x : Int) ^^^ BitVec.ofInt 64 (y : Int)).toNat : Int)
  rw [BitVec.toNat_xor, h1, h2, Go.IntWalk.i64_in _ (by omega)]
  omega

/-- What the reader holds. -/
structure Code (s : List Int) : Prop where
  byte : ∀ x ∈ s, 0 ≤ x ∧ x ≤ 255
  len : s.length ≤ 2000
theorem Code.rd {s : List Int} (h : Code s) (i : Int) : 0 ≤ rd s i ∧ rd s i ≤ 255 := by
  unfold Go.Proofs.YtffbdnnmpopieaaW.PrintWords.rd
  rw [List.getD_eq_getElem?_getD]
  by_cases hi : i.toNat < s.length
  · rw [List.getElem?_eq_getElem hi]; exact h.byte _ (List.getElem_mem hi)
  · rw [List.getElem?_eq_none (by omega)]; simp
theorem w64 (x : Int) (h0 : -9223372036854775808 ≤ x) (h1 : x ≤ 9223372036854775807) : wrap64 x = x := by unfold wrap64; omega
theorem tmod_nn (x n : Int) (hx : 0 ≤ x) (hn : 1 ≤ n) : 0 ≤ Int.tmod x n ∧ Int.tmod x n < n := by
  rw [Int.tmod_eq_emod_of_nonneg hx]
  exact ⟨Int.emod_nonneg _ (by omega), Int.emod_lt_of_pos _ (by omega)⟩

theorem pick_ok (k : Nat) {s : List Int} (hs : Code s) (p n : Int) (hp : 0 ≤ p) (hp2 : p ≤ 1000000000) (hn : 1 ≤ n) (hn2 : n ≤ 1000000) :
    ∃ v, spec_l30Rd_pick.f (k + 1) s p n = some (v, p + 1) ∧ 0 ≤ v ∧ v < n := by
  have hl := hs.len
  unfold spec_l30Rd_pick.f
  rw [if_neg (by omega), w64 (p + 1) (by omega) (by omega)]
  simp only [spec_l30Rd_pick.j0]
  have e1 : wrap64 (p + 1 - 1) = p := by rw [w64 _ (by omega) (by omega)]; omega
  by_cases hz : (s.length : Int) = 0
  · rw [if_pos (by simp [hz])]; exact ⟨0, rfl, by omega, by omega⟩
  · rw [if_neg (by simpa using hz), e1]
    by_cases hlt : p < (s.length : Int)
    · rw [if_pos hlt, if_pos hp, if_neg (by omega)]
      obtain ⟨r0, r1⟩ := hs.rd p
      rw [w64 (rd s p) (by omega) (by omega)]
      obtain ⟨t0, t1⟩ := tmod_nn (rd s p) n r0 hn
      exact ⟨_, rfl, t0, t1⟩
    · have hpos : 1 ≤ (s.length : Int) := by omega
      obtain ⟨m0, m1⟩ := tmod_nn p (s.length : Int) hp hpos
      have e2 : wrap64 (wrap64 (p * 7) + 3) = p * 7 + 3 := by rw [w64 (p * 7) (by omega) (by omega), w64 _ (by omega) (by omega)]
      obtain ⟨q0, q1⟩ := tmod_nn (p * 7 + 3) (s.length : Int) (by omega) hpos
      rw [if_neg hlt, if_neg hz, if_pos m0, if_pos m1, e2, if_pos q0, if_pos q1, if_neg (by omega)]
      obtain ⟨a0, a1⟩ := hs.rd (Int.tmod p (s.length : Int))
      obtain ⟨b0, b1⟩ := hs.rd (Int.tmod (p * 7 + 3) (s.length : Int))
      have d0 : 0 ≤ Int.tdiv p (s.length : Int) ∧ Int.tdiv p (s.length : Int) ≤ p := by
        rw [Int.tdiv_eq_ediv_of_nonneg hp]
        exact ⟨Int.ediv_nonneg hp (by omega), Int.ediv_le_self _ hp⟩
      obtain ⟨d0, d1⟩ := d0
      generalize rd s (Int.tmod p (s.length : Int)) = A at a0 a1 ⊢
      generalize rd s (Int.tmod (p * 7 + 3) (s.length : Int)) = B at b0 b1 ⊢
      generalize Int.tdiv p (s.length : Int) = D at d0 d1 ⊢
      rw [w64 A (by omega) (by omega), w64 B (by omega) (by omega), w64 D (by omega) (by omega), w64 (A * 131) (by omega) (by omega), w64 (B * 1117) (by omega) (by omega), w64 (p * 29) (by omega) (by omega), w64 (D * 53) (by omega) (by omega), w64 (A * 131 + B * 1117) (by omega) (by omega), w64 (A * 131 + B * 1117 + p * 29) (by omega) (by omega), w64 (A * 131 + B * 1117 + p * 29 + D * 53) (by omega) (by omega)]
      have hx0 : 0 ≤ A * 131 + B * 1117 + p * 29 + D * 53 := by omega
      have hx1 : A * 131 + B * 1117 + p * 29 + D * 53 ≤ 100000000000 := by omega
      generalize A * 131 + B * 1117 + p * 29 + D * 53 = X at hx0 hx1 ⊢
      have y0 : 0 ≤ Int.tdiv X 64 ∧ Int.tdiv X 64 ≤ X := by
        rw [Int.tdiv_eq_ediv_of_nonneg hx0]; omega
      obtain ⟨y0, y1⟩ := y0
      rw [w64 (Int.tdiv X 64) (by omega) (by omega)]
      have z0 := xor_nn X (Int.tdiv X 64) hx0 (by omega) y0 (by omega)
      obtain ⟨t0, t1⟩ := tmod_nn (Go.bits .xor .i64 X (Int.tdiv X 64)) n z0 hn
      exact ⟨_, rfl, t0, t1⟩

theorem open_ok (l : List Int) (hb : ∀ x ∈ l, (Lit.int .u8 x).wf = true) : ∃ s, spec_l30Open.f l = some (s, 0) ∧ Code s := by
  have hb' : ∀ x ∈ l, 0 ≤ x ∧ x ≤ 255 := fun x hx => by
    have := hb x hx
    simp [Lit.wf, IntKind.min, IntKind.max, IntKind.bits, IntKind.signed] at this
    omega
  unfold spec_l30Open.f
  by_cases h : (l.length : Int) > 2000
  · rw [if_pos h, if_pos (by omega)]
    exact ⟨_, rfl, fun x hx => hb' x (List.mem_of_mem_take hx), by rw [List.length_take]; omega⟩
  · rw [if_neg h]
    exact ⟨_, rfl, hb', by omega⟩

theorem label_ok (k : Nat) {s : List Int} (hs : Code s) (p : Int) (hp : 0 ≤ p) (hp2 : p ≤ 900000000) :
    ∃ a b q, spec_l30Label.f (k + 1) s p = some (a, b, q) ∧ p ≤ q ∧ q ≤ p + 5 := by
  unfold spec_l30Label.f
  obtain ⟨v1, e1, _, _⟩ := pick_ok k hs p 4 hp (by omega) (by omega) (by omega)
  obtain ⟨v2, e2, _, _⟩ := pick_ok k hs (p + 1) 16 (by omega) (by omega) (by omega) (by omega)
  obtain ⟨v3, e3, g3, l3⟩ := pick_ok k hs (p + 1 + 1) 6 (by omega) (by omega) (by omega) (by omega)
  obtain ⟨v4, e4, _, _⟩ := pick_ok k hs (p + 1 + 1 + 1) 16 (by omega) (by omega) (by omega) (by omega)
  obtain ⟨v5, e5, g5, l5⟩ := pick_ok k hs (p + 1 + 1 + 1 + 1) 2 (by omega) (by omega) (by omega) (by omega)
  obtain ⟨v6, e6, g6, l6⟩ := pick_ok k hs (p + 1 + 1 + 1 + 1) 3 (by omega) (by omega) (by omega) (by omega)
  simp only [e1, e2, e3, Option.bind_some, if_pos g3]
  rw [if_pos (by simp; omega)]
  simp only [e4, Option.bind_some]
  by_cases c0 : v4 = 0
  · rw [if_pos c0]
    simp only [e5, Option.bind_some, if_pos g5]
    rw [if_pos (by simp; omega)]
    exact ⟨_, _, _, rfl, by omega, by omega⟩
  · rw [if_neg c0]
    by_cases c1 : v4 = 1
    · rw [if_pos c1]
      simp only [e6, Option.bind_some, if_pos g6]
      rw [if_pos (by simp; omega)]
      exact ⟨_, _, _, rfl, by omega, by omega⟩
    · rw [if_neg c1]
      exact ⟨_, _, _, rfl, by omega, by omega⟩

theorem near_ok (k : Nat) {s : List Int} (hs : Code s) (p a b : Int) (hp : 0 ≤ p) (hp2 : p ≤ 800000000) :
    ∃ c d q, spec_l30Near.f (k + 1) s p a b = some (c, d, q) := by
  unfold spec_l30Near.f
  obtain ⟨v1, e1, _, _⟩ := pick_ok k hs p 5 hp (by omega) (by omega) (by omega)
  obtain ⟨v2, e2, _, _⟩ := pick_ok k hs (p + 1) 16 (by omega) (by omega) (by omega) (by omega)
  obtain ⟨x, y, z, e3, _, _⟩ := label_ok k hs (p + 1) (by omega) (by omega)
  simp only [e1, Option.bind_some]
  by_cases c0 : v1 = 0
  · rw [if_pos c0]; exact ⟨_, _, _, rfl⟩
  · rw [if_neg c0]
    by_cases c1 : v1 = 1
    · rw [if_pos c1]; exact ⟨_, _, _, rfl⟩
    · rw [if_neg c1]
      by_cases c2 : v1 = 2
      · rw [if_pos c2]; simp only [e2, Option.bind_some]; exact ⟨_, _, _, rfl⟩
      · rw [if_neg c2]; simp only [e3, Option.bind_some]; exact ⟨_, _, _, rfl⟩
end Go.Proofs.Ytffbdnnmpopieaa.YDrawL
