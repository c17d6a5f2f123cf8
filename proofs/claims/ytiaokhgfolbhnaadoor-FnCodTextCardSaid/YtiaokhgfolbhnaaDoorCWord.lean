/- Lines of orders, read: the plain law. -/
import Derived.Test.YtiaokhgfolbhnaaDoorCTxt
import Derived.Test.YtiaokhgfolbhnaaDoorCLine
set_option maxRecDepth 100000
set_option maxHeartbeats 4000000
set_option linter.unusedSimpArgs false
set_option linter.unusedVariables false
namespace Go.Proofs.YtiaokhgfolbhnaaDoor.C
open Go Go.Av Go.Proofs
/-! Words and their digits -/
theorem valN_app : ∀ (u : List UInt8) (b : UInt8) (a : Nat), valN (u ++ [b]) a = (valN u a).bind fun m => bif decide (48 ≤ b.toNat) && decide (b.toNat ≤ 57) then some (m * 10 + (b.toNat - 48)) else none
  | [], b, a => rfl
  | c :: u, b, a => by
    rw [List.cons_append, valN, valN]
    cases decide (48 ≤ c.toNat) && decide (c.toNat ≤ 57) with
    | true => simp only [cond_true]; exact valN_app u b _
    | false => rfl
theorem dg_small {n : Nat} (h : n < 10) : Lib.decDigits n = [UInt8.ofNat (48 + n)] := by
  rw [Lib.decDigits, dif_pos h]
theorem dg_big {n : Nat} (h : 10 ≤ n) : Lib.decDigits n = Lib.decDigits (n / 10) ++ [UInt8.ofNat (48 + n % 10)] := by
  rw [Lib.decDigits, dif_neg (by omega)]
theorem byte_of {b : UInt8} {n : Nat} (h : b.toNat = n) : UInt8.ofNat n = b := by
  rw [← h]; simp
theorem dg_of_val : ∀ (k : Nat) (w : List UInt8) (n : Nat), w.length = k + 1 → valN w 0 = some n → (w.length = 1 ∨ (w.headD 0).toNat ≠ 48) → Lib.decDigits n = w
  | 0, w, n, hl, hv, hh => by
    obtain ⟨b, rfl⟩ : ∃ b, w = [b] := by
      match w, hl with
      | [b], _ => exact ⟨b, rfl⟩
    unfold valN at hv
    cases hq : (decide (48 ≤ b.toNat) && decide (b.toNat ≤ 57)) with
    | false => rw [hq] at hv; simp at hv
    | true =>
      rw [hq] at hv
      simp only [cond_true, valN, Option.some.injEq, Bool.and_eq_true, decide_eq_true_eq] at hv hq
      rw [dg_small (by omega), byte_of (b := b) (by omega)]
  | k + 1, w, n, hl, hv, hh => by
    have hne : w ≠ [] := by intro h; rw [h] at hl; simp at hl
    obtain ⟨u, b, rfl⟩ : ∃ u b, w = u ++ [b] := ⟨w.dropLast, w.getLast hne, (List.dropLast_concat_getLast hne).symm⟩
    have hul : u.length = k + 1 := by simpa using hl
    rw [valN_app] at hv
    cases hm : valN u 0 with
    | none => rw [hm] at hv; simp at hv
    | some m =>
      rw [hm, Option.bind_some] at hv
      cases hq : (decide (48 ≤ b.toNat) && decide (b.toNat ≤ 57)) with
      | false => rw [hq] at hv; simp at hv
      | true =>
        rw [hq] at hv
        simp only [cond_true, Option.some.injEq, Bool.and_eq_true, decide_eq_true_eq] at hv hq
        have hu : u ≠ [] := by intro h; rw [h] at hul; simp at hul
        obtain ⟨c, r, rfl⟩ := List.exists_cons_of_ne_nil hu
        have hh' : ((c :: r).headD 0).toNat ≠ 48 := by
          rcases hh with h | h
          · simp at h
          · simpa using h
        have ih := dg_of_val k (c :: r) m hul hm (.inr hh')
        have hm0 : m ≠ 0 := by
          intro h
          rw [h, dg_small (by decide)] at ih
          rw [← ih] at hh'
          exact hh' rfl
        rw [dg_big (by omega), show n / 10 = m by omega, ih, byte_of (b := b) (by omega)]
theorem dg_of_rdn {w : List UInt8} {n : Nat} (h : rdn w = some n) : Lib.decDigits n = w := by
  by_cases hq : w.length = 0 ∨ 10 < w.length ∨ ((w.headD 0).toNat = 48 ∧ 1 < w.length)
  · rw [rdn_none hq] at h; simp at h
  · rw [rdn_some (by omega) (by omega) (by omega)] at h
    exact dg_of_val (w.length - 1) w n (by omega) h (by omega)
theorem ofN {n : Nat} (h : n < 256) : (UInt8.ofNat n).toNat = n := by simp; omega
theorem valN_cons {b : Nat} (hb : b < 10) (l : List UInt8) (a : Nat) : valN (UInt8.ofNat (48 + b) :: l) a = valN l (a * 10 + b) := by
  have e := ofN (show 48 + b < 256 by omega)
  rw [valN, e, decide_eq_true (show 48 ≤ 48 + b by omega), decide_eq_true (show 48 + b ≤ 57 by omega)]
  simp only [Bool.and_self, cond_true]
  congr 1; omega
theorem rdn_dg {n : Nat} (h : n ≤ 255) : rdn (Lib.decDigits n) = some n := by
  have hz : ∀ m, m < 10 → m ≠ 0 → (UInt8.ofNat (48 + m)).toNat ≠ 48 := fun m h1 h2 => by rw [ofN (by omega)]; omega
  by_cases h1 : n < 10
  · rw [dg_small h1, rdn_some (by simp) (by simp) (by simp), valN_cons h1]; simp [valN]
  · by_cases h2 : n < 100
    · rw [dg_big (by omega), dg_small (show n / 10 < 10 by omega)]
      have := hz (n / 10) (by omega) (by omega)
      rw [rdn_some (by simp) (by simp) (by simpa using this), List.singleton_append, valN_cons (by omega), valN_cons (by omega), valN]
      congr 1; omega
    · rw [dg_big (by omega), dg_big (show 10 ≤ n / 10 by omega), dg_small (show n / 10 / 10 < 10 by omega)]
      have := hz (n / 10 / 10) (by omega) (by omega)
      rw [rdn_some (by simp) (by simp) (by simpa using this), List.singleton_append, List.cons_append, List.singleton_append, valN_cons (by omega), valN_cons (by omega), valN_cons (by omega), valN]
      congr 1; omega
theorem dg_no {n : Nat} (h : n ≤ 255) : ∀ b ∈ Lib.decDigits n, b ≠ 32 := by
  have hz : ∀ m, m < 10 → UInt8.ofNat (48 + m) ≠ 32 := fun m h1 h2 => by
    have := congrArg UInt8.toNat h2
    rw [ofN (by omega)] at this
    simp at this; omega
  by_cases h1 : n < 10
  · rw [dg_small h1]; intro b hb; simp only [List.mem_singleton] at hb; subst hb; exact hz _ h1
  · by_cases h2 : n < 100
    · rw [dg_big (by omega), dg_small (show n / 10 < 10 by omega)]
      intro b hb
      simp only [List.singleton_append, List.cons_append, List.nil_append, List.mem_cons, List.not_mem_nil, or_false] at hb
      rcases hb with rfl | rfl
      · exact hz _ (by omega)
      · exact hz _ (by omega)
    · rw [dg_big (by omega), dg_big (show 10 ≤ n / 10 by omega), dg_small (show n / 10 / 10 < 10 by omega)]
      intro b hb
      simp only [List.singleton_append, List.cons_append, List.nil_append, List.mem_cons, List.not_mem_nil, or_false] at hb
      rcases hb with rfl | rfl | rfl
      · exact hz _ (by omega)
      · exact hz _ (by omega)
      · exact hz _ (by omega)
theorem dg_len {n : Nat} (h : n ≤ 255) : (Lib.decDigits n).length ≤ 3 := by
  by_cases h1 : n < 10
  · rw [dg_small h1]; simp
  · by_cases h2 : n < 100
    · rw [dg_big (by omega), dg_small (show n / 10 < 10 by omega)]; simp
    · rw [dg_big (by omega), dg_big (show 10 ≤ n / 10 by omega), dg_small (show n / 10 / 10 < 10 by omega)]; simp
/-! Cutting and joining -/
def jn : List (List UInt8) → List UInt8
  | [] => []
  | [x] => x
  | x :: y :: r => x ++ 32 :: jn (y :: r)
theorem jn_cons {x : List UInt8} {r : List (List UInt8)} (h : r ≠ []) : jn (x :: r) = x ++ 32 :: jn r := by
  obtain ⟨y, r', rfl⟩ := List.exists_cons_of_ne_nil h; rfl
theorem jn_spl : ∀ l : List UInt8, jn (spl l) = l
  | [] => rfl
  | b :: l => by
    have ih := jn_spl l
    obtain ⟨x, r, e⟩ := List.exists_cons_of_ne_nil (spl_ne l)
    unfold spl
    cases hb : b == 32 with
    | true =>
      have e : b = 32 := by simpa using hb
      rw [cond_true, jn_cons (spl_ne l), ih, e]; rfl
    | false =>
      rw [cond_false, e]
      rw [e] at ih
      cases r with
      | nil => simp only [List.headD_cons, List.tail_cons, jn] at ih ⊢; rw [ih]
      | cons y r =>
        simp only [List.headD_cons, List.tail_cons, jn, List.cons_append] at ih ⊢; rw [ih]
theorem spl_word : ∀ x : List UInt8, (∀ b ∈ x, b ≠ 32) → spl x = [x]
  | [], _ => rfl
  | b :: x, h => by
    have ih := spl_word x fun c hc => h c (by simp [hc])
    have hb : (b == 32) = false := by simpa using h b (by simp)
    unfold spl; rw [hb, cond_false, ih]; rfl
theorem spl_cut : ∀ (x r : List UInt8), (∀ b ∈ x, b ≠ 32) → spl (x ++ 32 :: r) = x :: spl r
  | [], r, _ => rfl
  | b :: x, r, h => by
    have ih := spl_cut x r fun c hc => h c (by simp [hc])
    have hb : (b == 32) = false := by simpa using h b (by simp)
    rw [List.cons_append, spl, hb, cond_false, ih]; rfl
/-! Orders out of words -/
def atI (ws : List (List UInt8)) (i : Nat) : Int := ((rdn (ws.getD (i + 1) [])).getD 0 : Nat)
def mkI (n : Nat) (ws : List (List UInt8)) : VOrd := (n, atI ws 0, atI ws 1, atI ws 2, ())
def mt (n : Nat) (ws : List (List UInt8)) : Bool := decide (wd n = ws.headD []) && decide (ws.length = 1 + (kd n).length)
def allN (ws : List (List UInt8)) : Bool := ws.tail.all fun w => (rdn w).isSome
def trI (n : Nat) (ws : List (List UInt8)) : Option VOrd := bif mt n ws && (allN ws && ordOk (mkI n ws)) then some (mkI n ws) else none
def codF (ws : List (List UInt8)) : Nat → Nat → Option VOrd
  | 0, _ => none
  | f + 1, n => match trI n ws with
    | some o => some o
    | none => codF ws f (n + 1)
/-- What a line says, if it is one. -/
def codR (l : List UInt8) : Option VOrd := codF (spl l) 14 1
def atS (ws : List (List UInt8)) (k : Nat) : Int := bif decide (k < ws.length) then (match rdn (ws.getD k []) with
  | some n => (n : Int)
  | none => -1) else 0
def mkS (n : Nat) (ws : List (List UInt8)) : VOrd := (n, atS ws 1, atS ws 2, atS ws 3, ())
def trS (n : Nat) (l : List UInt8) (ws : List (List UInt8)) : Option VOrd := bif decide (wd n = ws.headD []) && (ordOk (mkS n ws) && decide (codT (mkS n ws) = ⟨l.toArray⟩)) then some (mkS n ws) else none
abbrev isOp (n : Nat) : Prop := n = 1 ∨ n = 2 ∨ n = 3 ∨ n = 4 ∨ n = 5 ∨ n = 6 ∨ n = 7 ∨ n = 8 ∨ n = 9 ∨ n = 10 ∨ n = 11 ∨ n = 12 ∨ n = 13 ∨ n = 14
theorem isOp_ok {n : Nat} (h : isOp n) : opOk (n : Int) = true := by
  unfold opOk
  simp only [Bool.and_eq_true, decide_eq_true_eq]
  omega
theorem wd_no {n : Nat} : ∀ b ∈ wd n, b ≠ 32 := by
  unfold wd; split <;> decide
theorem kd_kinds {n : Nat} : (kd n).length = 0 ∨ (kd n).length = 1 ∨ (kd n).length = 2 ∨ (kd n).length = 3 := by
  have := kd_len n; omega
theorem ord_rest {n : Nat} {a b c : Int} {u : Unit} (h : ordOk ((n : Int), a, b, c, u) = true) : ((kd n).length < 1 → a = 0) ∧ ((kd n).length < 2 → b = 0) ∧ ((kd n).length < 3 → c = 0) := by
  unfold ordOk nOk mo at h
  simp only [Bool.and_eq_true, decide_eq_true_eq, Int.toNat_natCast] at h
  obtain ⟨_, ⟨a0, a1⟩, ⟨b0, b1⟩, c0, c1⟩ := h
  refine ⟨fun hk => ?_, fun hk => ?_, fun hk => ?_⟩
  · rw [if_neg (by omega)] at a1; omega
  · rw [if_neg (by omega)] at b1; omega
  · rw [if_neg (by omega)] at c1; omega
theorem num_dg (n : Nat) : (num (n : Int)).data.toList = Lib.decDigits n := by
  unfold num Lib.itoa
  rw [if_neg (by omega)]
  simp
theorem codT_bytes {n a b c : Nat} {u : Unit} (h : ordOk ((n : Int), (a : Int), (b : Int), (c : Int), u) = true) : (codT ((n : Int), (a : Int), (b : Int), (c : Int), u)).data.toList = jn (wd n :: [Lib.decDigits a, Lib.decDigits b, Lib.decDigits c].take (kd n).length) := by
  have e : codT ((n : Int), (a : Int), (b : Int), (c : Int), u) = lineT (wdT n) ([(a : Int), (b : Int), (c : Int)].take (kd n).length) := by unfold codT nums; rw [h]; rfl
  rw [e]
  have hw : (wdT n).data.toList = wd n := by simp [wdT]
  have hs : sp.data.toList = [32] := rfl
  rcases @kd_kinds n with k | k | k | k <;> rw [k] <;> simp [lineT, jn, ByteArray.data_append, hw, hs, num_dg]
theorem bytes_inj {a b : ByteArray} (h : a.data.toList = b.data.toList) : a = b := by
  apply ByteArray.ext; exact Array.toList_inj.1 h
theorem spl_line {n a b c : Nat} (ha : a ≤ 255) (hb : b ≤ 255) (hc : c ≤ 255) : spl (jn (wd n :: [Lib.decDigits a, Lib.decDigits b, Lib.decDigits c].take (kd n).length)) = wd n :: [Lib.decDigits a, Lib.decDigits b, Lib.decDigits c].take (kd n).length := by
  rcases @kd_kinds n with k | k | k | k <;> rw [k]
  · exact spl_word _ wd_no
  · show spl (wd n ++ 32 :: Lib.decDigits a) = _
    rw [spl_cut _ _ wd_no, spl_word _ (dg_no ha)]; rfl
  · show spl (wd n ++ 32 :: (Lib.decDigits a ++ 32 :: Lib.decDigits b)) = _
    rw [spl_cut _ _ wd_no, spl_cut _ _ (dg_no ha), spl_word _ (dg_no hb)]; rfl
  · show spl (wd n ++ 32 :: (Lib.decDigits a ++ 32 :: (Lib.decDigits b ++ 32 :: Lib.decDigits c))) = _
    rw [spl_cut _ _ wd_no, spl_cut _ _ (dg_no ha), spl_cut _ _ (dg_no hb), spl_word _ (dg_no hc)]; rfl
theorem cond_some {α : Type} {b : Bool} {x y : α} : (bif b then some x else none) = some y ↔ b = true ∧ x = y := by cases b <;> simp
/-- What is read is written so. -/
theorem trI_line {n : Nat} {l : List UInt8} {o : VOrd} (h : trI n (spl l) = some o) : ordOk o = true ∧ codT o = ⟨l.toArray⟩ ∧ mkS n (spl l) = o := by
  unfold trI at h
  rw [cond_some] at h
  simp only [Bool.and_eq_true, mt, decide_eq_true_eq] at h
  obtain ⟨⟨⟨h1, h2⟩, h3, h4⟩, rfl⟩ := h
  refine ⟨h4, bytes_inj ?_, ?_⟩
  · unfold mkI atI at h4 ⊢
    rw [codT_bytes h4]
    show _ = l
    conv => rhs; rw [← jn_spl l]
    congr 1
    generalize spl l = ws at *
    unfold allN at h3
    rcases @kd_kinds n with k | k | k | k <;> rw [k] at h2 ⊢
    · match ws, h2 with
      | [x], _ => simpa using h1
    · match ws, h2 with
      | [x, y], _ =>
        simp only [List.tail_cons, List.all_cons, List.all_nil, Bool.and_true, Option.isSome_iff_exists] at h3
        obtain ⟨a, ha⟩ := h3
        simp only [List.getD_cons_succ, List.getD_cons_zero, ha, Option.getD_some, List.take, dg_of_rdn ha]
        simpa using h1
    · match ws, h2 with
      | [x, y, z], _ =>
        simp only [List.tail_cons, List.all_cons, List.all_nil, Bool.and_true, Bool.and_eq_true, Option.isSome_iff_exists] at h3
        obtain ⟨⟨a, ha⟩, b, hb⟩ := h3
        simp only [List.getD_cons_succ, List.getD_cons_zero, ha, hb, Option.getD_some, List.take, dg_of_rdn ha, dg_of_rdn hb]
        simpa using h1
    · match ws, h2 with
      | [x, y, z, t], _ =>
        simp only [List.tail_cons, List.all_cons, List.all_nil, Bool.and_true, Bool.and_eq_true, Option.isSome_iff_exists] at h3
        obtain ⟨⟨a, ha⟩, ⟨b, hb⟩, c, hc⟩ := h3
        simp only [List.getD_cons_succ, List.getD_cons_zero, ha, hb, hc, Option.getD_some, List.take, dg_of_rdn ha, dg_of_rdn hb, dg_of_rdn hc]
        simpa using h1
  · have hat : ∀ i, atS (spl l) (i + 1) = atI (spl l) i := fun i => by
      unfold atS atI
      cases hlt : decide (i + 1 < (spl l).length) with
      | true =>
        have hlt := of_decide_eq_true hlt
        unfold allN at h3
        have := List.all_eq_true.1 h3 ((spl l).getD (i + 1) []) (by
          rw [List.getD_eq_getElem?_getD, List.getElem?_eq_getElem hlt, Option.getD_some]
          have e : (spl l)[i + 1] = (spl l).tail[i]'(by rw [List.length_tail]; omega) := by rw [List.getElem_tail]
          rw [e]; exact List.getElem_mem _)
        obtain ⟨m, hm⟩ := Option.isSome_iff_exists.1 this
        rw [hm]; rfl
      | false =>
        have hlt := of_decide_eq_false hlt
        rw [List.getD_eq_getElem?_getD, List.getElem?_eq_none (by omega)]; rfl
    unfold mkS mkI
    rw [hat, hat, hat]
/-- What is written so is read. -/
theorem trI_of_line {n : Nat} {a b c : Int} {u : Unit} {l : List UInt8} (h : ordOk ((n : Int), a, b, c, u) = true) (hl : codT ((n : Int), a, b, c, u) = ⟨l.toArray⟩) : trI n (spl l) = some ((n : Int), a, b, c, u) := by
  obtain ⟨hn, a, b, c, rfl, rfl, rfl, ha, hb, hc⟩ := ordOk_nat h
  have e1 := codT_bytes h
  rw [hl] at e1
  have e2 : l = jn (wd n :: [Lib.decDigits a, Lib.decDigits b, Lib.decDigits c].take (kd n).length) := e1
  have e3 := spl_line (n := n) ha hb hc
  rw [← e2] at e3
  obtain ⟨r1, r2, r3⟩ := ord_rest h
  have em : mkI n (spl l) = ((n : Int), (a : Int), (b : Int), (c : Int), u) := by
    rw [e3]
    unfold mkI atI
    rcases @kd_kinds n with k | k | k | k <;> rw [k] at r1 r2 r3 ⊢ <;> simp only [List.take, List.getD_cons_succ, List.getD_cons_zero, List.getD_nil, rdn_dg ha, rdn_dg hb, rdn_dg hc, Option.getD_some, show rdn [] = none from rfl, Option.getD_none]
    · rw [r1 (by decide), r2 (by decide), r3 (by decide)]; rfl
    · rw [r2 (by decide), r3 (by decide)]; rfl
    · rw [r3 (by decide)]; rfl
  unfold trI
  rw [cond_some, em]
  refine ⟨?_, rfl⟩
  rw [h, Bool.and_true, Bool.and_eq_true]
  rw [e3]
  constructor
  · unfold mt
    simp only [List.headD_cons, decide_true, Bool.true_and, decide_eq_true_eq, List.length_cons, List.length_take, List.length_nil]
    have := kd_len n
    omega
  · unfold allN
    rcases @kd_kinds n with k | k | k | k <;> rw [k] <;> simp [rdn_dg ha, rdn_dg hb, rdn_dg hc]
theorem trS_eq {n : Nat} {l : List UInt8} : trS n l (spl l) = trI n (spl l) := by
  cases hI : trI n (spl l) with
  | some o =>
    obtain ⟨h1, h2, h3⟩ := trI_line hI
    unfold trS
    rw [cond_some, h3, h1, h2]
    refine ⟨?_, rfl⟩
    unfold trI at hI
    rw [cond_some] at hI
    simp only [Bool.and_eq_true, mt] at hI
    rw [hI.1.1.1]; simp
  | none =>
    cases hS : trS n l (spl l) with
    | none => rfl
    | some o =>
      unfold trS at hS
      rw [cond_some] at hS
      simp only [Bool.and_eq_true, decide_eq_true_eq] at hS
      obtain ⟨⟨h1, h2, h3⟩, rfl⟩ := hS
      unfold mkS at h2 h3
      rw [trI_of_line h2 h3] at hI
      simp at hI
theorem line_len {o : VOrd} (h : ordOk o = true) : (codT o).size ≤ 80 := by
  obtain ⟨n, a, b, c, u⟩ := o
  obtain ⟨hn, a, b, c, rfl, rfl, rfl, ha, hb, hc⟩ := ordOk_nat h
  obtain ⟨m, rfl, _⟩ := op_nat hn
  have e1 := codT_bytes h
  have hw := @wd_len m
  have da := dg_len ha
  have db := dg_len hb
  have dc := dg_len hc
  have : (codT ((m : Int), (a : Int), (b : Int), (c : Int), u)).size = (jn (wd m :: [Lib.decDigits a, Lib.decDigits b, Lib.decDigits c].take (kd m).length)).length := by rw [← e1]; rfl
  rw [this]
  rcases @kd_kinds m with k | k | k | k <;> rw [k] <;> simp [jn] <;> omega
theorem trI_long {n : Nat} {l : List UInt8} (h : 80 < l.length) : trI n (spl l) = none := by
  cases hI : trI n (spl l) with
  | none => rfl
  | some o =>
    obtain ⟨h1, h2, _⟩ := trI_line hI
    have := line_len h1
    rw [h2] at this
    exact absurd (show l.length ≤ 80 from this) (by omega)
theorem codF_none {ws : List (List UInt8)} (h : ∀ n, trI n ws = none) : ∀ f n, codF ws f n = none
  | 0, _ => rfl
  | f + 1, n => by rw [codF, h]; exact codF_none h f (n + 1)
end Go.Proofs.YtiaokhgfolbhnaaDoor.C
