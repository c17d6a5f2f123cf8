-- Text written for this claim by the session's program wip/xprint.py over the kit's print. Not trusted: the checker reads it.
import Derived.Test.YtffbdnnmpopieaaC0
import Derived.Outline
import Derived.Test.YtffbdnnmpopieaaC9
import Derived.Test.YtffbdnnmpopieaaC10
import Derived.Test.YtffbdnnmpopieaaC11
namespace Go.Proofs.Ytffbdnnmpopieaa.C
open Go.RowKit Go.Proofs.YtffbdnnmpopieaaW.PrintWords Go.Proofs.YtffbdnnmpopieaaW.PrintLast Go.Proofs.YtffbdnnmpopieaaW.PrintMore
attribute [local go_sem] max2_int min2_int max_two min_two max_three min_three max_four min_four   -- for this text's walks alone
set_option linter.unusedVariables false
set_option linter.unusedSimpArgs false

/-! ### impl_codOrderOk: function 58 -/
def impl_codOrderOk.most (s : ByteArray) (i : Nat) : Int := if i < s.size then (impl_codMost.f (bt s i)).getD 0 else 0
def impl_codOrderOk.chk (s : ByteArray) (i : Nat) (n : Int) : Bool := decide (0 ≤ n ∧ n ≤ impl_codOrderOk.most s i)
def impl_codOrderOk.arg (a b c : Int) (i : Nat) : Int := if i = 0 then a else if i = 1 then b else c
def impl_codOrderOk.all (s : ByteArray) (a b c : Int) : Bool := impl_codOrderOk.chk s 0 a && (impl_codOrderOk.chk s 1 b && impl_codOrderOk.chk s 2 c)
def impl_codOrderOk.f (a0_0 a0_1 a0_2 a0_3 : Int) : Option Bool :=
  if 1 ≤ a0_0 ∧ a0_0 ≤ 14 then some (impl_codOrderOk.all (impl_codOp_kinds.tab a0_0) a0_1 a0_2 a0_3) else some false
theorem impl_codOrderOk.ok3 {s : ByteArray} {a b c : Int} (h : ∀ j, j < 3 → impl_codOrderOk.chk s j (impl_codOrderOk.arg a b c j) = true) : impl_codOrderOk.all s a b c = true := by
  unfold impl_codOrderOk.all
  have h0 := h 0 (by omega); have h1 := h 1 (by omega); have h2 := h 2 (by omega)
  simp [impl_codOrderOk.arg] at h0 h1 h2
  simp [h0, h1, h2]
theorem impl_codOrderOk.bad3 {s : ByteArray} {a b c : Int} {j : Nat} (hj : j < 3) (h : impl_codOrderOk.chk s j (impl_codOrderOk.arg a b c j) = false) : impl_codOrderOk.all s a b c = false := by
  unfold impl_codOrderOk.all
  obtain rfl | rfl | rfl : j = 0 ∨ j = 1 ∨ j = 2 := by omega
  · simp [impl_codOrderOk.arg] at h; simp [h]
  · simp [impl_codOrderOk.arg] at h; simp [h]
  · simp [impl_codOrderOk.arg] at h; simp [h]
theorem impl_codOrderOk.mf (x : Int) : ∃ m, impl_codMost.f x = some m := by
  unfold impl_codMost.f; repeat' split
  all_goals exact ⟨_, rfl⟩
theorem impl_codOrderOk.ix (a b c : Int) (i : Nat) (hi : i = 0 ∨ i = 1 ∨ i = 2) (w : World) :
    (Instr.index 92 (.agg #[.int .i64 a, .int .i64 b, .int .i64 c]) (.int .i64 (i : Int))).run Try.prog w = .ok (.int .i64 (impl_codOrderOk.arg a b c i)) w := by
  rcases hi with rfl | rfl | rfl <;> kernel_rfl
set_option maxHeartbeats 4000000 in
set_option maxRecDepth 100000 in
theorem impl_codOrderOk.calls (a0_0 : Int) (a0_1 : Int) (a0_2 : Int) (a0_3 : Int) (r : Bool) (w : World) (h : impl_codOrderOk.f a0_0 a0_1 a0_2 a0_3 = some r) :
    Calls Try.prog 58 #[.agg #[.int .i64 a0_0, .int .i64 a0_1, .int .i64 a0_2, .int .i64 a0_3]] w fun e w' => e = .returned (.bool r) ∧ Below w.heap.size w w' := by
  unfold impl_codOrderOk.f at h
  by_cases hk : 1 ≤ a0_0 ∧ a0_0 ≤ 14
  · rw [if_pos hk] at h
    have hok : impl_codOp_ok.f a0_0 = some true := by
      unfold impl_codOp_ok.f; rw [if_pos (by omega)]; simp; omega
    have hki : impl_codOp_kinds.f a0_0 = some (impl_codOp_kinds.tab a0_0) := by unfold impl_codOp_kinds.f; rw [if_pos hk]
    have A := Aside0.mk hok
    generalize impl_codOp_kinds.tab a0_0 = s at hki h
    have B := Aside0.mk hki
    have R := Aside0.mk h
    clear hok hk h hki
    have HB := Aside0.mk (Below.refl w.heap.size w)
    go_enter Try.func58, Try.ntmps58
    go_wp2_with (first | (go_at_call 64; (with_reducible refine (impl_codOp_ok.calls _ _ _ A.out).mono ?_); rintro e w' ⟨rfl, ⟨nd, rfl⟩⟩) | (go_at_call 65; (with_reducible refine (impl_codOp_kinds.calls _ _ _ B.out).mono ?_); rintro e w' ⟨rfl, ⟨nd2, rfl⟩⟩))
    go_loopw [22] (fun t wr => ∃ i : Nat, i ≤ 3 ∧ t = .int .i64 i ∧ Aside0 (∀ j, j < i → impl_codOrderOk.chk s j (impl_codOrderOk.arg a0_1 a0_2 a0_3 j) = true) ∧ Aside0 (Below w.heap.size w wr)) (fun t _ => 3 - (intOf t).toNat)
    case atStart => exact ⟨0, by omega, rfl, ⟨fun j hj => absurd hj (by omega)⟩, ⟨by repeat (first | exact HB.out | apply pw_below_drewN | apply below_alloc)⟩⟩
    case round =>
      clear HB
      obtain ⟨i, hi, rfl, HC, HB⟩ := hrel
      by_cases h3 : i < 3
      · have hix := impl_codOrderOk.ix a0_1 a0_2 a0_3 i (by omega)
        have hcs : ∀ b, impl_codOrderOk.chk s i (impl_codOrderOk.arg a0_1 a0_2 a0_3 i) = b → Aside0 (impl_codOrderOk.chk s i (impl_codOrderOk.arg a0_1 a0_2 a0_3 i) = b) := fun _ h => ⟨h⟩
        have hbad : impl_codOrderOk.chk s i (impl_codOrderOk.arg a0_1 a0_2 a0_3 i) = false → r = false := fun h => by
          have := R.out; rw [impl_codOrderOk.bad3 h3 h] at this; exact (Option.some.inj this).symm
        have hgood : impl_codOrderOk.chk s i (impl_codOrderOk.arg a0_1 a0_2 a0_3 i) = true → ∀ j, j < i + 1 → impl_codOrderOk.chk s j (impl_codOrderOk.arg a0_1 a0_2 a0_3 j) = true := fun h j hj => by
          by_cases e : j = i
          · subst e; exact h
          · exact HC.out j (by omega)
        have HBad := Aside0.mk hbad
        have HGood := Aside0.mk hgood
        clear hcs hbad hgood
        generalize hn : impl_codOrderOk.arg a0_1 a0_2 a0_3 i = n at hix HBad HGood
        clear hn
        by_cases hs : i < s.size
        · have hbt := bt_at s i (by omega)
          simp only [Int.toNat_natCast] at hbt
          obtain ⟨m, hm⟩ := impl_codOrderOk.mf (bt s i)
          have hmost : impl_codOrderOk.most s i = m := by unfold impl_codOrderOk.most; rw [if_pos hs, hm]; rfl
          have M := Aside0.mk hm
          have MO := Aside0.mk hmost
          clear hm hmost
          have hls : decide ((i : Int) < (s.size : Int)) = true := by simp; omega
          by_cases hlow : n < 0
          · have hr : r = false := HBad.out (by unfold impl_codOrderOk.chk; simp; omega)
            have RF := Aside0.mk hr
            have hl1 : decide (n < 0) = true := by simp; omega
            clear hr hlow HBad HGood
            go_wp2_with (go_at_call 66; (with_reducible refine (impl_codMost.calls _ _ _ M.out).mono ?_); rintro e w' ⟨rfl, ⟨nd, rfl⟩⟩)
            go_ret
            exact ⟨by rw [RF.out]; rfl, by repeat (first | exact HB.out | apply pw_below_drewN | apply below_alloc)⟩
          · by_cases hhi : m < n
            · have hr : r = false := HBad.out (by unfold impl_codOrderOk.chk; rw [MO.out]; simp; omega)
              have RF := Aside0.mk hr
              have hl1 : decide (n < 0) = false := by simp; omega
              have hl2 : decide (m < n) = true := by simp; omega
              clear hr hlow hhi HBad HGood
              go_wp2_with (go_at_call 66; (with_reducible refine (impl_codMost.calls _ _ _ M.out).mono ?_); rintro e w' ⟨rfl, ⟨nd, rfl⟩⟩)
              go_ret
              exact ⟨by rw [RF.out]; rfl, by repeat (first | exact HB.out | apply pw_below_drewN | apply below_alloc)⟩
            · have hg := Aside0.mk (HGood.out (by unfold impl_codOrderOk.chk; rw [MO.out]; simp; omega))
              have hl1 : decide (n < 0) = false := by simp; omega
              have hl2 : decide (m < n) = false := by simp; omega
              clear hlow hhi HBad HGood
              go_wp2_with (go_at_call 66; (with_reducible refine (impl_codMost.calls _ _ _ M.out).mono ?_); rintro e w' ⟨rfl, ⟨nd, rfl⟩⟩)
              go_roundw
              case rel => exact ⟨i + 1, by omega, by go_num, hg, ⟨by repeat (first | exact HB.out | apply pw_below_drewN | apply below_alloc)⟩⟩
              case measure => simp [intOf]; omega
        · have hmost : impl_codOrderOk.most s i = 0 := by unfold impl_codOrderOk.most; rw [if_neg hs]
          have MO := Aside0.mk hmost
          clear hmost
          have hls : decide ((i : Int) < (s.size : Int)) = false := by simp; omega
          by_cases hlow : n < 0
          · have hr : r = false := HBad.out (by unfold impl_codOrderOk.chk; simp; omega)
            have RF := Aside0.mk hr
            have hl1 : decide (n < 0) = true := by simp; omega
            clear hr hlow HBad HGood
            go_wp2
            go_ret
            exact ⟨by rw [RF.out]; rfl, by repeat (first | exact HB.out | apply pw_below_drewN | apply below_alloc)⟩
          · by_cases hhi : 0 < n
            · have hr : r = false := HBad.out (by unfold impl_codOrderOk.chk; rw [MO.out]; simp; omega)
              have RF := Aside0.mk hr
              have hl1 : decide (n < 0) = false := by simp; omega
              have hl2 : decide (0 < n) = true := by simp; omega
              clear hr hlow hhi HBad HGood
              go_wp2
              go_ret
              exact ⟨by rw [RF.out]; rfl, by repeat (first | exact HB.out | apply pw_below_drewN | apply below_alloc)⟩
            · have hg := Aside0.mk (HGood.out (by unfold impl_codOrderOk.chk; rw [MO.out]; simp; omega))
              have hl1 : decide (n < 0) = false := by simp; omega
              have hl2 : decide (0 < n) = false := by simp; omega
              clear hlow hhi HBad HGood
              go_wp2
              go_roundw
              case rel => exact ⟨i + 1, by omega, by go_num, hg, ⟨by repeat (first | exact HB.out | apply pw_below_drewN | apply below_alloc)⟩⟩
              case measure => simp [intOf]; omega
      · have hr : r = true := by
          have := R.out; rw [impl_codOrderOk.ok3 (fun j hj => HC.out j (by omega))] at this; exact (Option.some.inj this).symm
        have RT := Aside0.mk hr
        clear hr
        go_wp2
        go_ret
        exact ⟨by rw [RT.out]; rfl, by repeat (first | exact HB.out | apply pw_below_drewN | apply below_alloc)⟩
  · rw [if_neg hk] at h
    have hok : impl_codOp_ok.f a0_0 = some false := by
      unfold impl_codOp_ok.f
      by_cases g : a0_0 ≥ 1
      · rw [if_pos g]; simp; omega
      · rw [if_neg g]
    have A := Aside0.mk hok
    clear hok
    obtain rfl := Option.some.inj h
    clear h hk
    go_enter Try.func58, Try.ntmps58
    go_wp2_with (go_at_call 64; (with_reducible refine (impl_codOp_ok.calls _ _ _ A.out).mono ?_); rintro e w' ⟨rfl, ⟨nd, rfl⟩⟩)
    go_ret
    exact ⟨by rfl, by repeat (first | exact Below.refl _ _ | apply pw_below_drewN | apply below_alloc)⟩


end Go.Proofs.Ytffbdnnmpopieaa.C
