-- Text written for this claim by the session's program wip/xprint.py over the kit's print. Not trusted: the checker reads it.
import Derived.Test.YtinbciedkhjcmaaZ0
import Derived.Test.YtinbciedkhjcmaaZ9
namespace Go.Proofs.Ytinbciedkhjcmaa.Z
open Go.RowKit Go.Proofs.YtinbciedkhjcmaaW.PrintWords Go.Proofs.YtinbciedkhjcmaaW.PrintLast Go.Proofs.YtinbciedkhjcmaaW.PrintMore
attribute [local go_sem] max2_int min2_int max_two min_two max_three min_three max_four min_four   -- for this text's walks alone
set_option linter.unusedVariables false
set_option linter.unusedSimpArgs false

/-! ### impl_VmOk: function 44 -/
def impl_VmOk.all (l : List Int) : Bool := l.all fun x => decide (0 ≤ x ∧ x ≤ 255)
def impl_VmOk.f (a0_0 : Int) (l0_1 : List Int) (l0_2 : List Int) (a0_3 : Int) : Option Bool :=
  some (decide (0 ≤ a0_0 ∧ a0_0 ≤ 24 ∧ l0_1.length = 4 ∧ l0_2.length = 8) && (impl_VmOk.all l0_1 && (impl_VmOk.all l0_2 && decide (a0_3 = 0 ∨ a0_3 = 1 ∨ a0_3 = 2))))
theorem impl_VmOk.no {p : Prop} [Decidable p] {x r : Bool} (e : (decide p && x) = r) (h : ¬ p) : r = false := by
  rw [decide_eq_false h] at e; exact e.symm
theorem impl_VmOk.vb (x : Int) : impl_vmByte.f x = some (decide (0 ≤ x ∧ x ≤ 255)) := by
  unfold impl_vmByte.f; split
  · next h => congr 1; rw [decide_eq_decide]; omega
  · next h => congr 1; symm; rw [decide_eq_false_iff_not]; omega
theorem impl_VmOk.bad {l : List Int} {j : Int} (h0 : 0 ≤ j) (h1 : j < (l.length : Int)) (h : decide (0 ≤ rd l j ∧ rd l j ≤ 255) = false) : impl_VmOk.all l = false := by
  obtain ⟨n, rfl⟩ := Int.eq_ofNat_of_zero_le h0
  have hn : n < l.length := by omega
  have hr : rd l (n : Int) = l[n] := by simp [rd, List.getD_eq_getElem?_getD, hn]
  rw [hr] at h
  unfold impl_VmOk.all
  rw [Bool.eq_false_iff]
  intro hx
  rw [List.all_eq_true] at hx
  have := hx l[n] (List.getElem_mem hn)
  rw [h] at this; cases this
theorem impl_VmOk.good {l : List Int} (h : ∀ j : Int, 0 ≤ j → j < (l.length : Int) → decide (0 ≤ rd l j ∧ rd l j ≤ 255) = true) : impl_VmOk.all l = true := by
  unfold impl_VmOk.all
  rw [List.all_eq_true]
  intro x hx
  obtain ⟨n, hn, rfl⟩ := List.getElem_of_mem hx
  have := h (n : Int) (by omega) (by omega)
  have hr : rd l (n : Int) = l[n] := by simp [rd, List.getD_eq_getElem?_getD, hn]
  rwa [hr] at this
theorem impl_VmOk.ret_b {a b : Bool} (h : a = b) : Ending.returned (.bool a) = .returned (.bool b) := by rw [h]
theorem impl_VmOk.wj {j : Int} {n : Nat} (h0 : 0 ≤ j) (h1 : j < (n : Int)) (h : n ≤ maxLen) : wrap64 (j + 1) = j + 1 := by unfold maxLen at h; unfold wrap64; omega
theorem impl_VmOk.wi {i : Nat} (h : i < 2) : wrap64 ((i : Int) + 1) = i + 1 := by unfold wrap64; omega
def impl_VmOk.pk (A1 : Option Addr) (n1 c1 : Nat) (A2 : Option Addr) (n2 c2 : Nat) (i : Nat) : Value := if i = 0 then .slice A1 n1 c1 else .slice A2 n2 c2
theorem impl_VmOk.ix (A1 : Option Addr) (n1 c1 : Nat) (A2 : Option Addr) (n2 c2 : Nat) (i : Nat) (hi : i = 0 ∨ i = 1) (w : World) :
    (Instr.index 87 (.agg #[.slice A1 n1 c1, .slice A2 n2 c2]) (.int .i64 (i : Int))).run Try.prog w = .ok (impl_VmOk.pk A1 n1 c1 A2 n2 c2 i) w := by
  rcases hi with rfl | rfl <;> kernel_rfl
set_option maxHeartbeats 4000000 in
set_option maxRecDepth 100000 in
theorem impl_VmOk.calls (a0_0 : Int) (A0_1 : Option Addr) (c0_1 : Nat) (l0_1 : List Int) (A0_2 : Option Addr) (c0_2 : Nat) (l0_2 : List Int) (a0_3 : Int) (r : Bool) (w : World) (hr0_1 : Kd.C (Kd.int .i64) w A0_1 l0_1.length l0_1) (hc0_1 : l0_1.length ≤ c0_1) (hr0_2 : Kd.C (Kd.int .i64) w A0_2 l0_2.length l0_2) (hc0_2 : l0_2.length ≤ c0_2) (h : impl_VmOk.f a0_0 l0_1 l0_2 a0_3 = some r) :
    Calls Try.prog 44 #[.agg #[.int .i64 a0_0, .slice A0_1 l0_1.length c0_1, .slice A0_2 l0_2.length c0_2, .int .i64 a0_3]] w fun e w' => e = .returned (.bool r) ∧ Below w.heap.size w w' := by
  have hu29 := Try.underlying29
  have hu22 := Try.underlying22
  unfold impl_VmOk.f at h
  have R := Aside0.mk (Option.some.inj h)
  have HR1 := Aside0.mk hr0_1
  have HR2 := Aside0.mk hr0_2
  have HC1 := Aside0.mk hc0_1
  have HC2 := Aside0.mk hc0_2
  clear h hr0_1 hr0_2 hc0_1 hc0_2
  have HB := Aside0.mk (Below.refl w.heap.size w)
  by_cases c1 : a0_0 < 0
  · have RF := Aside0.mk (impl_VmOk.no R.out (by omega))
    have d1 : decide (a0_0 < 0) = true := decide_eq_true c1
    clear c1
    go_enter Try.func44, Try.ntmps44
    go_wp2_with ((with_reducible refine gate_dst (N := 1) rfl ?_); refine bx_ (N := 1) (cs := #[.int .i64 a0_0, .slice A0_1 l0_1.length c0_1, .slice A0_2 l0_2.length c0_2, .int .i64 a0_3]) (t := 29) ?_; intro gb hg wb hbox hb; have n0_ := Aside0.mk (below_step hb_ hb); have n1_ := Aside0.mk (hbox); clear HB; have HB := n0_; have BK := n1_; clear n0_ n1_; clear hb hbox hg; have hcz0 : wb.cell? ⟨gb, 0, none⟩ = some (.int .i64 a0_0) := (blk_cell BK.out 0).trans rfl; have hcz1 : wb.cell? ⟨gb, 1, none⟩ = some (.slice A0_1 l0_1.length c0_1) := (blk_cell BK.out 1).trans rfl; have hcz2 : wb.cell? ⟨gb, 2, none⟩ = some (.slice A0_2 l0_2.length c0_2) := (blk_cell BK.out 2).trans rfl; have hcz3 : wb.cell? ⟨gb, 3, none⟩ = some (.int .i64 a0_3) := (blk_cell BK.out 3).trans rfl; have hfz0 := blk_frozen BK.out 0; have hfz1 := blk_frozen BK.out 1; have hfz2 := blk_frozen BK.out 2; have hfz3 := blk_frozen BK.out 3)
    go_ret
    exact ⟨by rw [RF.out]; rfl, hb_⟩
  have d1 : decide (a0_0 < 0) = false := decide_eq_false c1
  by_cases c2 : 24 < a0_0
  · have RF := Aside0.mk (impl_VmOk.no R.out (by omega))
    have d2 : decide (a0_0 > 24) = true := decide_eq_true c2
    clear c1 c2
    go_enter Try.func44, Try.ntmps44
    go_wp2_with ((with_reducible refine gate_dst (N := 1) rfl ?_); refine bx_ (N := 1) (cs := #[.int .i64 a0_0, .slice A0_1 l0_1.length c0_1, .slice A0_2 l0_2.length c0_2, .int .i64 a0_3]) (t := 29) ?_; intro gb hg wb hbox hb; have n0_ := Aside0.mk (below_step hb_ hb); have n1_ := Aside0.mk (hbox); clear HB; have HB := n0_; have BK := n1_; clear n0_ n1_; clear hb hbox hg; have hcz0 : wb.cell? ⟨gb, 0, none⟩ = some (.int .i64 a0_0) := (blk_cell BK.out 0).trans rfl; have hcz1 : wb.cell? ⟨gb, 1, none⟩ = some (.slice A0_1 l0_1.length c0_1) := (blk_cell BK.out 1).trans rfl; have hcz2 : wb.cell? ⟨gb, 2, none⟩ = some (.slice A0_2 l0_2.length c0_2) := (blk_cell BK.out 2).trans rfl; have hcz3 : wb.cell? ⟨gb, 3, none⟩ = some (.int .i64 a0_3) := (blk_cell BK.out 3).trans rfl; have hfz0 := blk_frozen BK.out 0; have hfz1 := blk_frozen BK.out 1; have hfz2 := blk_frozen BK.out 2; have hfz3 := blk_frozen BK.out 3)
    go_ret
    exact ⟨by rw [RF.out]; rfl, hb_⟩
  have d2 : decide (a0_0 > 24) = false := decide_eq_false (by omega)
  by_cases c3 : l0_1.length = 4
  case neg =>
    have RF := Aside0.mk (impl_VmOk.no R.out (by omega))
    have d3 : ((l0_1.length : Int) != 4) = true := by rw [bne_iff_ne]; omega
    clear c1 c2 c3
    go_enter Try.func44, Try.ntmps44
    go_wp2_with ((with_reducible refine gate_dst (N := 1) rfl ?_); refine bx_ (N := 1) (cs := #[.int .i64 a0_0, .slice A0_1 l0_1.length c0_1, .slice A0_2 l0_2.length c0_2, .int .i64 a0_3]) (t := 29) ?_; intro gb hg wb hbox hb; have n0_ := Aside0.mk (below_step hb_ hb); have n1_ := Aside0.mk (hbox); clear HB; have HB := n0_; have BK := n1_; clear n0_ n1_; clear hb hbox hg; have hcz0 : wb.cell? ⟨gb, 0, none⟩ = some (.int .i64 a0_0) := (blk_cell BK.out 0).trans rfl; have hcz1 : wb.cell? ⟨gb, 1, none⟩ = some (.slice A0_1 l0_1.length c0_1) := (blk_cell BK.out 1).trans rfl; have hcz2 : wb.cell? ⟨gb, 2, none⟩ = some (.slice A0_2 l0_2.length c0_2) := (blk_cell BK.out 2).trans rfl; have hcz3 : wb.cell? ⟨gb, 3, none⟩ = some (.int .i64 a0_3) := (blk_cell BK.out 3).trans rfl; have hfz0 := blk_frozen BK.out 0; have hfz1 := blk_frozen BK.out 1; have hfz2 := blk_frozen BK.out 2; have hfz3 := blk_frozen BK.out 3)
    go_ret
    exact ⟨by rw [RF.out]; rfl, hb_⟩
  have d3 : ((l0_1.length : Int) != 4) = false := by rw [bne_eq_false_iff_eq]; omega
  by_cases c4 : l0_2.length = 8
  case neg =>
    have RF := Aside0.mk (impl_VmOk.no R.out (by omega))
    have d4 : ((l0_2.length : Int) != 8) = true := by rw [bne_iff_ne]; omega
    clear c1 c2 c3 c4
    go_enter Try.func44, Try.ntmps44
    go_wp2_with ((with_reducible refine gate_dst (N := 1) rfl ?_); refine bx_ (N := 1) (cs := #[.int .i64 a0_0, .slice A0_1 l0_1.length c0_1, .slice A0_2 l0_2.length c0_2, .int .i64 a0_3]) (t := 29) ?_; intro gb hg wb hbox hb; have n0_ := Aside0.mk (below_step hb_ hb); have n1_ := Aside0.mk (hbox); clear HB; have HB := n0_; have BK := n1_; clear n0_ n1_; clear hb hbox hg; have hcz0 : wb.cell? ⟨gb, 0, none⟩ = some (.int .i64 a0_0) := (blk_cell BK.out 0).trans rfl; have hcz1 : wb.cell? ⟨gb, 1, none⟩ = some (.slice A0_1 l0_1.length c0_1) := (blk_cell BK.out 1).trans rfl; have hcz2 : wb.cell? ⟨gb, 2, none⟩ = some (.slice A0_2 l0_2.length c0_2) := (blk_cell BK.out 2).trans rfl; have hcz3 : wb.cell? ⟨gb, 3, none⟩ = some (.int .i64 a0_3) := (blk_cell BK.out 3).trans rfl; have hfz0 := blk_frozen BK.out 0; have hfz1 := blk_frozen BK.out 1; have hfz2 := blk_frozen BK.out 2; have hfz3 := blk_frozen BK.out 3)
    go_ret
    exact ⟨by rw [RF.out]; rfl, hb_⟩
  have d4 : ((l0_2.length : Int) != 8) = false := by rw [bne_eq_false_iff_eq]; omega
  have RT := Aside0.mk ((by have := R.out; rw [decide_eq_true (by omega)] at this; exact this) : (impl_VmOk.all l0_1 && (impl_VmOk.all l0_2 && decide (a0_3 = 0 ∨ a0_3 = 1 ∨ a0_3 = 2))) = r)
  clear R c1 c2 c3 c4
  go_enter Try.func44, Try.ntmps44
  go_wp2_with ((with_reducible refine gate_dst (N := 1) rfl ?_); refine bx_ (N := 1) (cs := #[.int .i64 a0_0, .slice A0_1 l0_1.length c0_1, .slice A0_2 l0_2.length c0_2, .int .i64 a0_3]) (t := 29) ?_; intro gb hg wb hbox hb; have n0_ := Aside0.mk (below_step hb_ hb); have n1_ := Aside0.mk (hbox); clear HB; have HB := n0_; have BK := n1_; clear n0_ n1_; clear hb hbox hg; have hcz0 : wb.cell? ⟨gb, 0, none⟩ = some (.int .i64 a0_0) := (blk_cell BK.out 0).trans rfl; have hcz1 : wb.cell? ⟨gb, 1, none⟩ = some (.slice A0_1 l0_1.length c0_1) := (blk_cell BK.out 1).trans rfl; have hcz2 : wb.cell? ⟨gb, 2, none⟩ = some (.slice A0_2 l0_2.length c0_2) := (blk_cell BK.out 2).trans rfl; have hcz3 : wb.cell? ⟨gb, 3, none⟩ = some (.int .i64 a0_3) := (blk_cell BK.out 3).trans rfl; have hfz0 := blk_frozen BK.out 0; have hfz1 := blk_frozen BK.out 1; have hfz2 := blk_frozen BK.out 2; have hfz3 := blk_frozen BK.out 3)
  clear hcz0 hcz1 hcz2 hcz3 hfz0 hfz1 hfz2 hfz3 d1 d2 d3 d4
  go_loopg [32] 3 (fun kq t wr => ∃ i : Nat, Aside0 (i + kq = 3) ∧ i ≤ 2 ∧ t = .int .i64 i ∧ Aside0 (0 < i → impl_VmOk.all l0_1 = true) ∧ Aside0 (1 < i → impl_VmOk.all l0_2 = true) ∧ Aside0 (Below w.heap.size w wr) ∧ Aside0 (wr.heap[gb]? = some (.cells #[.int .i64 a0_0, .slice A0_1 l0_1.length c0_1, .slice A0_2 l0_2.length c0_2, .int .i64 a0_3] 29 (0, 0))))
  case atStart => exact ⟨0, ⟨by omega⟩, by omega, rfl, ⟨fun h => absurd h (by omega)⟩, ⟨fun h => absurd h (by omega)⟩, ⟨hb_⟩, ⟨bk_⟩⟩
  case round =>
    clear HB BK
    obtain ⟨i, HK, hi, rfl, HA1, HA2, HB, BK⟩ := hrel
    obtain ⟨k1, rfl⟩ : ∃ k1, gk = k1 + 1 := ⟨gk - 1, by have := HK.out; omega⟩
    by_cases h2 : i < 2
    · have hix := impl_VmOk.ix A0_1 l0_1.length c0_1 A0_2 l0_2.length c0_2 i (by omega)
      obtain ⟨A, c, l, hpk, HR, hbad, hgood⟩ : ∃ A c l, impl_VmOk.pk A0_1 l0_1.length c0_1 A0_2 l0_2.length c0_2 i = .slice A l.length c ∧ Aside0 (Kd.C (Kd.int .i64) w A l.length l) ∧ (impl_VmOk.all l = false → r = false) ∧ (impl_VmOk.all l = true → (0 < i + 1 → impl_VmOk.all l0_1 = true) ∧ (1 < i + 1 → impl_VmOk.all l0_2 = true)) := by
        by_cases h0 : i = 0
        · subst h0
          exact ⟨A0_1, c0_1, l0_1, rfl, HR1, fun h => by have := RT.out; rw [h] at this; exact this.symm, fun h => ⟨fun _ => h, fun h => absurd h (by omega)⟩⟩
        · obtain rfl : i = 1 := by omega
          exact ⟨A0_2, c0_2, l0_2, rfl, HR2, fun h => by have := RT.out; rw [h, HA1.out (by omega)] at this; exact this.symm, fun h => ⟨fun _ => HA1.out (by omega), fun _ => h⟩⟩
      rw [hpk] at hix
      have HBad := Aside0.mk hbad
      have HGood := Aside0.mk hgood
      have hlt : decide ((i : Int) < 2) = true := by simp; omega
      have HI := Aside0.mk h2
      clear hpk hbad hgood h2 hi
      go_wp2
      go_loopw [37] (fun t wr => ∃ j : Int, 0 ≤ j ∧ j ≤ (l.length : Int) ∧ t = .int .i64 j ∧ Aside0 (∀ m : Int, 0 ≤ m → m < j → decide (0 ≤ rd l m ∧ rd l m ≤ 255) = true) ∧ Aside0 (Below w.heap.size w wr) ∧ Aside0 (wr.heap[gb]? = some (.cells #[.int .i64 a0_0, .slice A0_1 l0_1.length c0_1, .slice A0_2 l0_2.length c0_2, .int .i64 a0_3] 29 (0, 0)))) (fun t _ => l.length - (intOf t).toNat)
      case atStart => exact ⟨0, by omega, by omega, rfl, ⟨fun m h h' => absurd h' (by omega)⟩, ⟨hb_⟩, ⟨bk_⟩⟩
      case round =>
        clear HB BK
        obtain ⟨j, hj0, hj1, rfl, HJ, HB, BK⟩ := hrel
        by_cases hj : j < (l.length : Int)
        · have hls : decide (j < (l.length : Int)) = true := decide_eq_true hj
          obtain ⟨ad, rfl, hx⟩ := Kd.at_int (Kd.C_below HR.out HB.out) j hj0 hj
          have hvb := impl_VmOk.vb (rd l j)
          have hsz := HR.out.2.1
          rcases hd : decide (0 ≤ rd l j ∧ rd l j ≤ 255) with _ | _
          · have RF := Aside0.mk (HBad.out (impl_VmOk.bad hj0 hj hd))
            rw [hd] at hvb
            have A := Aside0.mk hvb
            have hj0' := eq_true hj0
            have hj1' := eq_true hj
            clear hvb hd HBad HGood hj0 hj1
            go_wp2_with (go_at_call 25; (with_reducible refine (impl_vmByte.calls _ _ _ A.out).mono ?_); rintro e w' ⟨rfl, ⟨nd, rfl⟩⟩)
            go_ret
            exact ⟨by rw [RF.out]; rfl, hb_⟩
          · have HG := Aside0.mk hd
            rw [hd] at hvb
            have A := Aside0.mk hvb
            have HJ0 := Aside0.mk hj0
            have HJ1 := Aside0.mk hj
            have hj0' := eq_true hj0
            have hj1' := eq_true hj
            clear hvb hd HBad HGood hj0 hj1
            go_wp2_with (go_at_call 25; (with_reducible refine (impl_vmByte.calls _ _ _ A.out).mono ?_); rintro e w' ⟨rfl, ⟨nd, rfl⟩⟩)
            go_roundw
            case rel =>
              have h0 := HJ0.out
              have h1 := HJ1.out
              have e := impl_VmOk.wj h0 h1 HR.out.2.1
              exact ⟨j + 1, by omega, by omega, by rw [e], ⟨fun m hm hm' => by by_cases e : m = j; (subst e; exact HG.out); exact HJ.out m hm (by omega)⟩, ⟨hb_⟩, ⟨bk_⟩⟩
            case measure =>
              have h0 := HJ0.out
              have h1 := HJ1.out
              have e := impl_VmOk.wj h0 h1 HR.out.2.1
              simp [intOf, e]; omega
        · have hls : decide (j < (l.length : Int)) = false := decide_eq_false hj
          have HT := Aside0.mk (HGood.out (impl_VmOk.good fun m h0 h1 => HJ.out m h0 (by omega)))
          clear HGood HBad hj hj0 hj1
          go_wp2
          go_roundg k1
          case rel =>
            have h2 := HI.out
            have hk := HK.out
            have e := impl_VmOk.wi h2
            exact ⟨i + 1, ⟨by omega⟩, by omega, by rw [e]; rfl, ⟨HT.out.1⟩, ⟨HT.out.2⟩, ⟨hb_⟩, ⟨bk_⟩⟩
          case measure =>
            have h2 := HI.out
            have hk := HK.out
            omega
    · obtain rfl : i = 2 := by omega
      have RL := Aside0.mk (by have := RT.out; rw [HA1.out (by omega), HA2.out (by omega)] at this; exact this : decide (a0_3 = 0 ∨ a0_3 = 1 ∨ a0_3 = 2) = r)
      clear h2 hi
      have hcz3 := (blk_cell BK.out 3).trans (rfl : _ = some (Value.int .i64 a0_3))
      have hfz3 := blk_frozen BK.out 3
      go_wp2
      all_goals (go_ret; refine ⟨impl_VmOk.ret_b ?_, hb_⟩; rw [← RL.out]; rw [Bool.eq_iff_iff]; simp [*]; done)


end Go.Proofs.Ytinbciedkhjcmaa.Z
