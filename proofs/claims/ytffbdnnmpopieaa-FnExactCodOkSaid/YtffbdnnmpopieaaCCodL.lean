/- FnExactCodOk, the plain law: the program's and the reference's look at a program's orders tell the same. -/
import Derived.Test.YtffbdnnmpopieaaC16
import Derived.Test.YtffbdnnmpopieaaC13
import Derived.Test.YtffbdnnmpopieaaC6
import Derived.Test.YtffbdnnmpopieaaC5
import Derived.Test.YtffbdnnmpopieaaC12
import Derived.Test.YtffbdnnmpopieaaC8
import Derived.Test.YtffbdnnmpopieaaC15
import Derived.Test.YtffbdnnmpopieaaGen
namespace Go.Proofs.Ytffbdnnmpopieaa.CCodL
open Go.RowKit Go.Proofs.YtffbdnnmpopieaaW.PrintWords Go.Proofs.YtffbdnnmpopieaaW.PrintLast Go.Proofs.Ytffbdnnmpopieaa.C Go.Proofs.Ytffbdnnmpopieaa.Gen
set_option linter.unusedVariables false
set_option linter.unusedSimpArgs false

def ordB (a b c d : Int) : Bool := decide (1 ≤ a ∧ a ≤ 14) && impl_codOrderOk.all (impl_codOp_kinds.tab a) b c d
theorem impl_ord (a b c d : Int) : impl_codOrderOk.f a b c d = some (ordB a b c d) := by
  unfold impl_codOrderOk.f ordB
  by_cases h : 1 ≤ a ∧ a ≤ 14
  · rw [if_pos h]; simp [h]
  · rw [if_neg h]; simp [h]
theorem in_rng (a lo hi : Int) : spec_l1In.f a lo hi = some (decide (lo ≤ a ∧ a ≤ hi)) := by
  unfold spec_l1In.f
  by_cases h : a ≥ lo
  · rw [if_pos h]; congr 1; rw [Bool.eq_iff_iff]; simp; omega
  · rw [if_neg h]; congr 1; symm; simp; omega
theorem ord_cases {a : Int} (h : 1 ≤ a ∧ a ≤ 14) : a = 1 ∨ a = 2 ∨ a = 3 ∨ a = 4 ∨ a = 5 ∨ a = 6 ∨ a = 7 ∨ a = 8 ∨ a = 9 ∨ a = 10 ∨ a = 11 ∨ a = 12 ∨ a = 13 ∨ a = 14 := by omega
theorem nought (n : Int) : (n == 0) = decide (0 ≤ n ∧ n ≤ 0) := by
  rw [Bool.eq_iff_iff]; simp; omega
theorem sz0 : (⟨#[114, 118, 45]⟩ : ByteArray).size = 3 := rfl
theorem sz1 : (⟨#[114, 114, 45]⟩ : ByteArray).size = 3 := rfl
theorem sz2 : (⟨#[114, 114, 114]⟩ : ByteArray).size = 3 := rfl
theorem sz3 : (⟨#[112, 114, 45]⟩ : ByteArray).size = 3 := rfl
theorem sz4 : (⟨#[119, 114, 114]⟩ : ByteArray).size = 3 := rfl
theorem sz5 : (⟨#[114, 45, 45]⟩ : ByteArray).size = 3 := rfl
theorem sz6 : (⟨#[45, 45, 45]⟩ : ByteArray).size = 3 := rfl
theorem sz7 : (⟨#[114, 118]⟩ : ByteArray).size = 2 := rfl
theorem sz8 : (⟨#[114, 114]⟩ : ByteArray).size = 2 := rfl
theorem sz9 : (⟨#[112, 114]⟩ : ByteArray).size = 2 := rfl
theorem sz10 : (⟨#[114]⟩ : ByteArray).size = 1 := rfl
theorem sz11 : (⟨#[]⟩ : ByteArray).size = 0 := rfl
theorem lt0 : bt (⟨#[114, 118, 45]⟩ : ByteArray) 0 = 114 := rfl
theorem lt1 : bt (⟨#[114, 118, 45]⟩ : ByteArray) 1 = 118 := rfl
theorem lt2 : bt (⟨#[114, 118, 45]⟩ : ByteArray) 2 = 45 := rfl
theorem lt3 : bt (⟨#[114, 114, 45]⟩ : ByteArray) 0 = 114 := rfl
theorem lt4 : bt (⟨#[114, 114, 45]⟩ : ByteArray) 1 = 114 := rfl
theorem lt5 : bt (⟨#[114, 114, 45]⟩ : ByteArray) 2 = 45 := rfl
theorem lt6 : bt (⟨#[114, 114, 114]⟩ : ByteArray) 0 = 114 := rfl
theorem lt7 : bt (⟨#[114, 114, 114]⟩ : ByteArray) 1 = 114 := rfl
theorem lt8 : bt (⟨#[114, 114, 114]⟩ : ByteArray) 2 = 114 := rfl
theorem lt9 : bt (⟨#[112, 114, 45]⟩ : ByteArray) 0 = 112 := rfl
theorem lt10 : bt (⟨#[112, 114, 45]⟩ : ByteArray) 1 = 114 := rfl
theorem lt11 : bt (⟨#[112, 114, 45]⟩ : ByteArray) 2 = 45 := rfl
theorem lt12 : bt (⟨#[119, 114, 114]⟩ : ByteArray) 0 = 119 := rfl
theorem lt13 : bt (⟨#[119, 114, 114]⟩ : ByteArray) 1 = 114 := rfl
theorem lt14 : bt (⟨#[119, 114, 114]⟩ : ByteArray) 2 = 114 := rfl
theorem lt15 : bt (⟨#[114, 45, 45]⟩ : ByteArray) 0 = 114 := rfl
theorem lt16 : bt (⟨#[114, 45, 45]⟩ : ByteArray) 1 = 45 := rfl
theorem lt17 : bt (⟨#[114, 45, 45]⟩ : ByteArray) 2 = 45 := rfl
theorem lt18 : bt (⟨#[45, 45, 45]⟩ : ByteArray) 0 = 45 := rfl
theorem lt19 : bt (⟨#[45, 45, 45]⟩ : ByteArray) 1 = 45 := rfl
theorem lt20 : bt (⟨#[45, 45, 45]⟩ : ByteArray) 2 = 45 := rfl
theorem lt21 : bt (⟨#[114, 118]⟩ : ByteArray) 0 = 114 := rfl
theorem lt22 : bt (⟨#[114, 118]⟩ : ByteArray) 1 = 118 := rfl
theorem lt23 : bt (⟨#[114, 114]⟩ : ByteArray) 0 = 114 := rfl
theorem lt24 : bt (⟨#[114, 114]⟩ : ByteArray) 1 = 114 := rfl
theorem lt25 : bt (⟨#[112, 114]⟩ : ByteArray) 0 = 112 := rfl
theorem lt26 : bt (⟨#[112, 114]⟩ : ByteArray) 1 = 114 := rfl
theorem lt27 : bt (⟨#[114]⟩ : ByteArray) 0 = 114 := rfl
theorem stepB (A : Bool) (P1 P2 : Prop) [Decidable P1] [Decidable P2] (X : Option Bool) :
    (if A = true then (if P1 then (if P2 then some false else X) else X) else some false) = if (A && !(decide P1 && decide P2)) = true then X else some false := by
  cases A <;> by_cases h1 : P1 <;> by_cases h2 : P2 <;> simp [h1, h2]
theorem spec_ord (k : Nat) (a b c d : Int) : spec_l5Order.f (k + 3) a b c d = some (ordB a b c d) := by
  by_cases h : 1 ≤ a ∧ a ≤ 14
  · rcases ord_cases h with rfl | rfl | rfl | rfl | rfl | rfl | rfl | rfl | rfl | rfl | rfl | rfl | rfl | rfl
    all_goals
      simp [spec_l5Order.f, spec_l5Shape.f, spec_l5Shape.j0, spec_l5Shape.j1, spec_l5Fits.f, in_rng, nought, ordB, impl_codOrderOk.all, impl_codOrderOk.chk, impl_codOrderOk.most, impl_codOp_kinds.tab, impl_codMost.f, -ByteArray.size_data, sz0, sz1, sz2, sz3, sz4, sz5, sz6, sz7, sz8, sz9, sz10, sz11, lt0, lt1, lt2, lt3, lt4, lt5, lt6, lt7, lt8, lt9, lt10, lt11, lt12, lt13, lt14, lt15, lt16, lt17, lt18, lt19, lt20, lt21, lt22, lt23, lt24, lt25, lt26, lt27]
      repeat' split
      all_goals first | (simp_all; done) | (simp_all; omega)
  · have e : ordB a b c d = false := by unfold ordB; simp [h]
    rw [e]
    have h1 : ¬ a = 1 := by omega
    have h2 : ¬ a = 2 := by omega
    have h3 : ¬ a = 3 := by omega
    have h4 : ¬ a = 4 := by omega
    have h5 : ¬ a = 5 := by omega
    have h6 : ¬ a = 6 := by omega
    have h7 : ¬ a = 7 := by omega
    have h8 : ¬ a = 8 := by omega
    have h9 : ¬ a = 9 := by omega
    have h10 : ¬ a = 10 := by omega
    have h11 : ¬ a = 11 := by omega
    have h12 : ¬ a = 12 := by omega
    have h13 : ¬ a = 13 := by omega
    have h14 : ¬ a = 14 := by omega
    simp [spec_l5Order.f, spec_l5Shape.f, spec_l5Shape.j0, spec_l5Shape.j1, h1, h2, h3, h4, h5, h6, h7, h8, h9, h10, h11, h12, h13, h14, -ByteArray.size_data, sz0, sz1, sz2, sz3, sz4, sz5, sz6, sz7, sz8, sz9, sz10, sz11]

/-- The same order, on the other side. -/
def cv (x : S76) : S74 := ⟨x.f0, x.f1, x.f2, x.f3⟩
theorem to_orders (l : List S76) (hl : l.length ≤ 1048576) (k : Nat) (hk : l.length < k) : laws_toVmOrderS.f k l = some (l.map cv) := by
  unfold laws_toVmOrderS.f
  rw [if_pos (by omega), if_pos (by omega)]
  have := copy_loop cv z76 l (fun k ys i => laws_toVmOrderS.l0 k l ys i) ?_ ?_ l.length k 0 (List.replicate ((l.length : Int) : Int).toNat z74) (by omega) hk (by simp) (by intro j hj; omega)
  · exact this
  · intro k ys i hi hy
    simp only [laws_toVmOrderS.l0, laws_toVmOrder.f, Option.bind_some]
    rw [if_pos (by omega), if_pos (by omega), if_pos (by omega), w64 _ (by omega) (by omega)]
    simp only [rd_T76, Int.toNat_natCast, cv]
    rfl
  · intro k ys
    simp only [laws_toVmOrderS.l0]
    rw [if_neg (by omega)]
theorem eq_orders (l : List S74) (hl : l.length ≤ 1048576) (k : Nat) (hk : l.length < k) : laws_eqVmOrderS.f k l l = some true := by
  unfold laws_eqVmOrderS.f
  rw [if_pos rfl]
  have := all_loop (fun _ => true) z74 l (fun k i => laws_eqVmOrderS.l0 k l l i) ?_ ?_ l.length k 0 (by omega) hk
  · have e : l.all (fun _ => true) = true := by simp [List.all_eq_true]
    rw [List.drop_zero, e] at this
    exact this
  · intro k i hi
    simp only [laws_eqVmOrderS.l0, laws_eqVmOrder.f, if_true, Option.bind_some]
    rw [if_pos (by omega), if_pos (by omega), if_pos (by omega), w64 _ (by omega) (by omega)]
    rfl
  · intro k
    simp only [laws_eqVmOrderS.l0]
    rw [if_neg (by omega)]

def one (n : Nat) (x : S74) : Bool := ordB x.f0 x.f1 x.f2 x.f3 && !(decide (x.f0 = 8) && decide ((n : Int) < x.f1))
def codB (l : List S74) : Bool := decide (l.length ≤ 24) && l.all (one l.length)
theorem impl_cod (l : List S74) (k : Nat) (hk : 30 ≤ k) : impl_CodOk.f k l = some (codB l) := by
  unfold impl_CodOk.f codB
  by_cases h : l.length ≤ 24
  · rw [if_neg (by omega)]
    have := all_loop (one l.length) z74 l (fun k i => impl_CodOk.l0 k l l (l.length : Int) i) ?_ ?_ l.length k 0 (by omega) (by omega)
    · simpa [h] using this
    · intro k i hi
      simp only [impl_CodOk.l0, impl_ord, Option.bind_some]
      rw [if_pos (by omega), if_pos (by omega), if_pos (by omega), w64 _ (by omega) (by omega)]
      simp only [rd_T74, Int.toNat_natCast, one]
      exact stepB _ _ _ _
    · intro k
      simp only [impl_CodOk.l0]
      rw [if_neg (by omega)]
  · rw [if_pos (by omega)]; simp [h]
theorem spec_cod (l : List S74) (k : Nat) (hk : 40 ≤ k) : spec_CodOk.f k l = some (codB l) := by
  unfold spec_CodOk.f codB
  by_cases h : l.length ≤ 24
  · rw [if_neg (by omega)]
    have := all_loop (one l.length) z74 l (fun k i => spec_CodOk.l0 (k + 3) l i) ?_ ?_ l.length (k - 3) 0 (by omega) (by omega)
    · rw [show k - 3 + 3 = k from by omega] at this
      simpa [h] using this
    · intro k i hi
      rw [show k + 1 + 3 = (k + 3) + 1 from by omega]
      simp only [spec_CodOk.l0, spec_ord, Option.bind_some]
      rw [if_pos (by omega), if_pos (by omega), w64 _ (by omega) (by omega)]
      simp only [rd_T74, Int.toNat_natCast, one]
      exact stepB _ _ _ _
    · intro k
      rw [show k + 1 + 3 = (k + 3) + 1 from by omega]
      simp only [spec_CodOk.l0]
      rw [if_neg (by omega)]
  · rw [if_pos (by omega)]; simp [h]

theorem law (l : List S76) (hl : l.length ≤ maxLen) : ∃ k, laws_FnExactCodOk.f k l = some true := by
  unfold maxLen at hl
  refine ⟨l.length + 1048700, ?_⟩
  unfold laws_FnExactCodOk.f laws_szVmOrderS.f
  have hw : wrap64 (1048576 - (l.length : Int)) = 1048576 - (l.length : Int) := w64 _ (by omega) (by omega)
  rw [hw]
  by_cases h : (1048576 : Int) - (l.length : Int) < 0
  · rw [if_pos h]; simp
  · rw [if_neg h]
    simp only [Option.bind_some]
    rw [if_neg h, to_orders l (by omega) _ (by omega)]
    simp only [Option.bind_some, impl_cod _ _ (show 30 ≤ l.length + 1048700 by omega), spec_cod _ _ (show 40 ≤ l.length + 1048700 by omega)]
    rw [eq_orders _ (by rw [List.length_map]; omega) _ (by rw [List.length_map]; omega)]
    simp
end Go.Proofs.Ytffbdnnmpopieaa.CCodL
