/- impl.txtNumber: decimals without needless noughts, ten at most. -/
import Derived.Test.YtiaokhgfolbhnaaDoorCSplit
import Derived.Tactics
import Derived.Tactics2
import Derived.StillTactics
import Derived.WalkKit
import Derived.Laws.RangeAny
import Derived.Laws.Strings3
import Derived.Laws.Sem
import Derived.Laws.World
import Derived.Laws.Unary
import Derived.Laws.Bits
import Derived.Laws.Small
import Derived.Scope
import Derived.FnLit
import Derived.LoopTactic
set_option maxRecDepth 1000000
set_option maxHeartbeats 4000000
set_option linter.unusedSimpArgs false
set_option linter.unusedVariables false
namespace Go.Proofs.YtiaokhgfolbhnaaDoor.C
open Go Go.Av Go.Proofs Go.Shelf
def valN : List UInt8 → Nat → Option Nat
  | [], n => some n
  | b :: l, n => bif decide (48 ≤ b.toNat) && decide (b.toNat ≤ 57) then valN l (n * 10 + (b.toNat - 48)) else none
/-- What a word says, if it is a number. -/
def rdn (w : List UInt8) : Option Nat := bif decide (w.length = 0) || decide (10 < w.length) || (w.headD 0 == 48 && decide (1 < w.length)) then none else valN w 0
def txtV (o : Option Nat) : Value := match o with
  | some n => .tuple #[.int .i64 n, .bool true]
  | none => .tuple #[.int .i64 0, .bool false]
theorem rdn_none {w : List UInt8} (h : w.length = 0 ∨ 10 < w.length ∨ ((w.headD 0).toNat = 48 ∧ 1 < w.length)) : rdn w = none := by
  unfold rdn
  have : (decide (w.length = 0) || decide (10 < w.length) || (w.headD 0 == 48 && decide (1 < w.length))) = true := by
    simp only [Bool.or_eq_true, Bool.and_eq_true, decide_eq_true_eq, beq_iff_eq]
    rcases h with h | h | ⟨h, h'⟩
    · exact .inl (.inl h)
    · exact .inl (.inr h)
    · exact .inr ⟨by rw [← UInt8.toNat_inj]; exact h, h'⟩
  rw [this]; rfl
theorem rdn_some {w : List UInt8} (h0 : w.length ≠ 0) (h1 : w.length ≤ 10) (h2 : ¬((w.headD 0).toNat = 48 ∧ 1 < w.length)) : rdn w = valN w 0 := by
  unfold rdn
  have : (decide (w.length = 0) || decide (10 < w.length) || (w.headD 0 == 48 && decide (1 < w.length))) = false := by
    rw [Bool.eq_false_iff]
    simp only [ne_eq, Bool.or_eq_true, Bool.and_eq_true, decide_eq_true_eq, beq_iff_eq]
    rintro ((h | h) | ⟨h, h'⟩)
    · exact h0 h
    · omega
    · exact h2 ⟨by rw [h]; rfl, h'⟩
  rw [this]; rfl
theorem sz_l (s : ByteArray) : s.data.toList.length = s.size := rfl
theorem emp_iff (s : ByteArray) : s.toList = [] ↔ s.size = 0 := by rw [ByteArray.toList_eq, ← sz_l, List.length_eq_zero_iff]
theorem emp_iffB (s : ByteArray) : s.toList.isEmpty = true ↔ s.size = 0 := by rw [List.isEmpty_iff, emp_iff]
theorem hd_l (s : ByteArray) (h : 0 < s.size) : (s.data.toList.headD 0).toNat = (s[0]'h).toNat := by
  rw [List.headD_eq_head?_getD, List.head?_eq_getElem?, List.getElem?_eq_getElem (by rw [sz_l]; exact h)]
  rfl
theorem valN_step (s : ByteArray) (pos acc : Nat) (h : pos < s.size) : valN (s.data.toList.drop pos) acc = bif decide (48 ≤ (s[pos]'h).toNat) && decide ((s[pos]'h).toNat ≤ 57) then valN (s.data.toList.drop (pos + 1)) (acc * 10 + ((s[pos]'h).toNat - 48)) else none := by
  rw [List.drop_eq_getElem_cons (show pos < s.data.toList.length from h)]
  rfl
theorem valN_bad (s : ByteArray) (pos acc : Nat) (h : pos < s.size) (hb : (s[pos]'h).toNat < 48 ∨ 57 < (s[pos]'h).toNat) : valN (s.data.toList.drop pos) acc = none := by
  rw [valN_step s pos acc h]
  have : (decide (48 ≤ (s[pos]'h).toNat) && decide ((s[pos]'h).toNat ≤ 57)) = false := by
    rw [Bool.eq_false_iff]; simp only [ne_eq, Bool.and_eq_true, decide_eq_true_eq]; omega
  rw [this]; rfl
theorem valN_good (s : ByteArray) (pos acc : Nat) (h : pos < s.size) (h1 : 48 ≤ (s[pos]'h).toNat) (h2 : (s[pos]'h).toNat ≤ 57) : valN (s.data.toList.drop (pos + 1)) (acc * 10 + ((s[pos]'h).toNat - 48)) = valN (s.data.toList.drop pos) acc := by
  rw [valN_step s pos acc h, decide_eq_true h1, decide_eq_true h2]; rfl
theorem txtWalk (s : ByteArray) (hs : s.size ≤ lim) (w : World) :
    Calls Tryd.prog 78 #[.string s] w fun e w' => e = .returned (txtV (rdn s.data.toList)) ∧ (w' = w ∨ ∃ pos, w' = w.iter s pos) := by
  go_enter Tryd.func78, Tryd.ntmps78
  go_wp2
  all_goals first
    | (go_ret2; exact ⟨by rw [rdn_none (.inl (by rw [sz_l]; exact (emp_iff s).1 (by assumption)))]; rfl, .inl rfl⟩)
    | (go_ret2; exact ⟨by rw [rdn_none (.inr (.inl (by rw [sz_l]; omega)))]; rfl, .inl rfl⟩)
    | (go_ret2; exact ⟨by rw [rdn_none (.inr (.inr (by rw [sz_l, hd_l s (by assumption)]; omega)))]; rfl, .inl rfl⟩)
    | (simp only [emp_iffB, emp_iff] at *; go_ret2; exact ⟨by rw [rdn_none (.inr (.inr (by rw [sz_l, hd_l s (by assumption)]; omega)))]; rfl, .inl rfl⟩)
    | (exfalso; simp only [emp_iffB, emp_iff] at *; omega)
    | skip
  all_goals
    have hr : rdn s.data.toList = valN s.data.toList 0 := by
      simp only [emp_iffB, emp_iff] at *
      exact rdn_some (by rw [sz_l]; omega) (by rw [sz_l]; omega) (by rw [sz_l, hd_l s (by assumption)]; omega)
    have h10 : s.size ≤ 10 := by omega
    go_loopw [4] (fun n w' => ∃ (pos acc : Nat), w' = w.iter s pos ∧ n = .int .i64 acc ∧ pos ≤ s.size ∧ acc < 10 ^ pos ∧ valN (s.data.toList.drop pos) acc = rdn s.data.toList) (fun _ w' => s.size - w'.iterPos w.heap.size)
    case atStart => exact ⟨0, 0, rfl, rfl, Nat.zero_le _, by decide, hr.symm⟩
    case round =>
      obtain ⟨pos, acc, rfl, rfl, hp0, ha, hv⟩ := hrel
      clear hr
      have hpow : 10 ^ pos ≤ 10 ^ 10 := Nat.pow_le_pow_right (by decide) (by omega)
      by_cases hp : pos < s.size
      · have hpow2 : 10 ^ (pos + 1) = 10 ^ pos * 10 := Nat.pow_succ ..
        have hnx : ∀ ty, (Instr.next (.pointer (some ⟨w.heap.size, 0, none⟩)) true ty).run Tryd.prog (w.iter s pos) = _ := fun ty => run_next_any w s pos ty hp
        by_cases hb : (s[pos]'hp).toNat < 128
        · rw [decode_ascii s pos hp hb] at hnx
          have hgood := valN_good s pos acc hp
          have hbad := valN_bad s pos acc hp
          go_wp2
          all_goals first
            | (go_ret2; exact ⟨by rw [← hv, hbad (by omega)]; rfl, .inr ⟨_, rfl⟩⟩)
            | skip
          go_roundw
          case rel =>
            refine ⟨_, _, _, ⟨pos + 1, rfl, acc * 10 + ((s[pos]'hp).toNat - 48), rfl, by omega, by omega, ?_⟩, rfl, rfl, ?_⟩
            · rw [hgood (by omega) (by omega), hv]
            · congr 1; omega
          case measure => omega
        · have hd := decode_high s pos hp (by omega)
          have hle := decode_le s pos
          have hbad := valN_bad s pos acc hp (by omega)
          generalize hdc : (Utf8.decode s pos).1 = dc at *
          generalize (Utf8.decode s pos).2 = dw at *
          go_wp2
          all_goals first
            | (go_ret2; exact ⟨by rw [← hv, hbad]; rfl, .inr ⟨_, rfl⟩⟩)
            | omega
      · have hnx : ∀ ty, (Instr.next (.pointer (some ⟨w.heap.size, 0, none⟩)) true ty).run Tryd.prog (w.iter s pos) = _ := fun ty => run_next_end w s pos ty hp
        have hfin : valN (s.data.toList.drop pos) acc = some acc := by rw [List.drop_eq_nil_of_le (by rw [sz_l]; omega)]; rfl
        go_wp2
        go_ret2
        exact ⟨by rw [← hv, hfin]; rfl, .inr ⟨_, rfl⟩⟩
/-- A function of plain values that leaves the old blocks as they were: a promise. -/
theorem fun_ext {P : Program} [Known P] {f : FuncId} {fn : Func} {args : List AV} {r : AV} (hf : P.funcs[f]? = some fn) (hn : (fn.name == "runtime.NumGoroutine") = false) (hb : fn.body.isNone = false)
    (hr : ∀ (C : Cx) (vs : List Value), RepL C args vs (fun _ => 0) → ∃ v, (∀ C' : Cx, Rep C' r v (fun _ => 0)) ∧ Calls P f vs.toArray C.w (fun e w' => e = .returned v ∧ (w' = C.w ∨ ∃ o, w' = C.w.alloc o))) : Fun P f args r := by
  refine ⟨Go.Av.enters_of hf hn hb, fun B vs hBn hF hFb hargs hh => ?_⟩
  obtain ⟨v, hv, hc⟩ := hr _ vs hargs
  have hc' : Calls P f vs.toArray B.w (fun e w' => e = .returned v ∧ (w' = B.w ∨ ∃ o, w' = B.w.alloc o)) := hc
  have hF0 : ∀ b, B.F b = 0 := hh
  refine hc'.mono fun e w' ⟨he, hw⟩ => ?_
  rcases hw with rfl | ⟨o, rfl⟩
  · exact ⟨r, [], ⟨rfl, rfl⟩, v, B.mu, B.n, fun _ => 0, fun _ => 0, fun _ => 0, he, by omega, fun _ _ => rfl, ⟨rfl, rfl, rfl, Nat.le_refl _, fun b hb' _ => rfl, fun _ => Nat.zero_le _, fun b hb' => absurd rfl hb'⟩, fun _ => rfl, hv _, fun _ => rfl⟩
  · have hheap : (B.w.alloc o).heap = B.w.heap.push o := rfl
    refine ⟨r, [], ⟨rfl, rfl⟩, v, B.mu, B.n, fun _ => 0, fun _ => 0, fun _ => 0, he, by omega, fun _ _ => rfl, ⟨rfl, rfl, rfl, ?_, fun b hb' _ => ?_, fun _ => Nat.zero_le _, fun b hb' => absurd rfl hb'⟩, fun _ => rfl, hv _, fun _ => rfl⟩
    · rw [hheap, Array.size_push]; omega
    · rw [hheap, Array.getElem?_push_lt hb']
      exact (Array.getElem?_eq_getElem hb').symm
def txtA (o : Option Nat) : AV := .tup [.int .i64 (o.getD 0), .bool o.isSome]
theorem valN_lt : ∀ (l : List UInt8) (a n : Nat), valN l a = some n → n < (a + 1) * 10 ^ l.length
  | [], a, n, h => by simp [valN] at h; simp [h]
  | b :: l, a, n, h => by
    unfold valN at h
    cases hq : (decide (48 ≤ b.toNat) && decide (b.toNat ≤ 57)) with
    | false => rw [hq] at h; simp at h
    | true =>
      rw [hq, cond_true] at h
      have := valN_lt l _ _ h
      simp only [Bool.and_eq_true, decide_eq_true_eq] at hq
      rw [List.length_cons, Nat.pow_succ]
      have h2 : a * 10 + (b.toNat - 48) + 1 ≤ (a + 1) * 10 := by omega
      have h3 := Nat.mul_le_mul_right (10 ^ l.length) h2
      rw [Nat.mul_comm (10 ^ l.length) 10, ← Nat.mul_assoc]
      omega
theorem rdn_lt {w : List UInt8} {n : Nat} (h : rdn w = some n) : n < 10000000000 := by
  by_cases hq : w.length = 0 ∨ 10 < w.length ∨ ((w.headD 0).toNat = 48 ∧ 1 < w.length)
  · rw [rdn_none hq] at h; simp at h
  · rw [rdn_some (by omega) (by omega) (by omega)] at h
    have h1 := valN_lt w 0 n h
    have h2 : (10 : Nat) ^ w.length ≤ 10 ^ 10 := Nat.pow_le_pow_right (by decide) (by omega)
    omega
theorem txtNum {P : Program} [Known P] (hP : P = Tryd.prog) (w : List UInt8) (hs : w.length ≤ lim) : Fun P 78 [.str ⟨w.toArray⟩] (txtA (rdn w)) := by
  subst hP
  refine fun_ext Tryd.func78 (by kernel_rfl) (by kernel_rfl) fun C vs hvs => ?_
  obtain ⟨v1, r1, F1, G1, rfl, ⟨rfl, _⟩, ⟨rfl, _⟩, _⟩ := hvs
  refine ⟨txtV (rdn w), fun C' => ?_, (txtWalk ⟨w.toArray⟩ hs C.w).mono fun e w' ⟨h1, h2⟩ => ⟨h1, h2.imp id fun ⟨p, hp⟩ => ⟨_, hp⟩⟩⟩
  cases hr : rdn w with
  | none => exact ⟨[.int .i64 0, .bool false], rfl, _, _, _, _, rfl, ⟨rfl, by decide, fun _ => rfl⟩, ⟨_, _, _, _, rfl, ⟨rfl, fun _ => rfl⟩, ⟨rfl, fun _ => rfl⟩, fun _ => rfl⟩, fun _ => rfl⟩
  | some n =>
    have hlt := rdn_lt hr
    exact ⟨[.int .i64 n, .bool true], rfl, _, _, _, _, rfl, ⟨rfl, wrap_i64 (by unfold In64; simp only [Option.getD_some]; omega), fun _ => rfl⟩, ⟨_, _, _, _, rfl, ⟨rfl, fun _ => rfl⟩, ⟨rfl, fun _ => rfl⟩, fun _ => rfl⟩, fun _ => rfl⟩
end Go.Proofs.YtiaokhgfolbhnaaDoor.C
