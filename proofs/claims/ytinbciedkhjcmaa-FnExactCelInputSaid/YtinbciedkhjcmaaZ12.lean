-- Text written for this claim by the session's program wip/xprint.py over the kit's print. Not trusted: the checker reads it.
import Derived.Test.YtinbciedkhjcmaaZ0
namespace Go.Proofs.Ytinbciedkhjcmaa.Z
open Go.RowKit Go.Proofs.YtinbciedkhjcmaaW.PrintWords Go.Proofs.YtinbciedkhjcmaaW.PrintLast Go.Proofs.YtinbciedkhjcmaaW.PrintMore
attribute [local go_sem] max2_int min2_int max_two min_two max_three min_three max_four min_four   -- for this text's walks alone
set_option linter.unusedVariables false
set_option linter.unusedSimpArgs false

/-! ### impl_bytCopy: function 46 -/
def impl_bytCopy.f (l0 : List Int) : Option (List Int) := if l0.length ≤ 140737488351232 then some l0 else none
theorem impl_bytCopy.inf : (Try.prog.info? 5).map (fun i => (i.zero, i.size, i.bytes)) = some (some (.int .u8 0), 1, 1) := by kernel_rfl
theorem impl_bytCopy.siz : (Try.prog.info? 5).map (·.size) = some 1 := by kernel_rfl
theorem impl_bytCopy.blk (w : World) (n : Nat) : (w.alloc (.cells (madeCells #[.int .u8 0] n) 5)).heap[w.heap.size]? = some (.cells (List.replicate n (Value.int .u8 0)).toArray 5 (0, 0)) := by
  rw [heap_alloc_new]
  have : madeCells #[Value.int .u8 0] n = (List.replicate n (Value.int .u8 0)).toArray := by
    apply Array.ext
    · simp [size_madeCells]
    · intro i h1 h2
      simp [madeCells, Nat.mod_one]
  rw [this]
theorem impl_bytCopy.onec (l : List Int) : ∀ v ∈ nums .u8 l, v.oneCell' = true := by
  intro v hv; obtain ⟨x, _, rfl⟩ := List.mem_map.1 hv; rfl
theorem impl_bytCopy.far {w : World} {ad : Addr} {o : Obj} {l : List Int} (H : Aside0 (∀ (j : Nat) (u : Value), (nums .u8 l)[j]? = some u → w.cell? (ad.add j) = some u)) :
    ∀ (j : Nat) (v : Value), (nums .u8 l)[j]? = some v → (w.alloc o).cell? (ad.add j) = some v := by
  intro j v hv
  have := H.out j v hv
  exact pw_cell_below (below_alloc (Below.refl _ _) _) this
set_option maxHeartbeats 4000000 in
set_option maxRecDepth 100000 in
theorem impl_bytCopy.calls (A0 : Option Addr) (c0 : Nat) (l0 : List Int) (r : List Int) (w : World) (hr0 : Kd.C (Kd.int .u8) w A0 l0.length l0) (hc0 : l0.length ≤ c0) (h : impl_bytCopy.f l0 = some r) :
    Calls Try.prog 46 #[.slice A0 l0.length c0] w fun e w' => ∃ v0_ : Value, e = .returned (v0_) ∧ Kd.R (Kd.int .u8) 5 w' w.heap.size (fun _ => True) v0_ r ∧ Below w.heap.size w w' := by
  unfold impl_bytCopy.f at h
  by_cases hl : l0.length ≤ 140737488351232
  · rw [if_pos hl] at h
    obtain rfl := Option.some.inj h
    clear h
    rcases Nat.eq_zero_or_pos l0.length with h0 | h0
    · obtain rfl : l0 = [] := List.eq_nil_of_length_eq_zero h0
      clear hr0 hc0 hl h0
      go_enter Try.func46, Try.ntmps46
      go_wp2
      go_ret
      exact ⟨_, rfl, Kd.R_nil _ _ _ _ _, Below.refl _ _⟩
    · obtain ⟨_, _, hread⟩ := hr0
      obtain ⟨ad, rfl, hcell⟩ := hread h0
      have HCELL : Aside0 (∀ j u, (nums .u8 l0)[j]? = some u → w.cell? (ad.add j) = some u) := ⟨fun j u hu => by
        have hj : j < l0.length := by have := (List.getElem?_eq_some_iff.1 hu).1; rwa [nums_length] at this
        obtain ⟨c, hc1, hc2, hc3⟩ := hcell j _ (List.getElem?_eq_getElem hj)
        have hc2' : c = [.int .u8 l0[j]] := hc2
        subst hc2'
        have := hc3 0 _ rfl
        have e1 : (Kd.int .u8).sz = 1 := rfl
        rw [e1, Nat.mul_one, Nat.add_zero] at this
        rw [this]
        rw [← hu]
        simp [nums, List.getElem?_eq_getElem hj]⟩
      obtain ⟨n, hn⟩ : ∃ n, n = l0.length := ⟨_, rfl⟩
      rw [← hn] at hl h0 hc0 ⊢
      have hne : ((n : Int) == 0) = false := by rw [beq_eq_false_iff_ne]; omega
      have HN := Aside0.mk hn
      have HL := Aside0.mk hl
      have H0 := Aside0.mk h0
      have HC := Aside0.mk hc0
      have hmk := print_make (P := Try.prog) 25 5 .u8 1 Try.underlying25 impl_bytCopy.inf (by decide) n (by omega)
      clear hcell hread hn hl h0 hc0
      go_enter Try.func46, Try.ntmps46
      go_wp2_with ((with_reducible refine gate_dst (N := 12) rfl ?_); refine wpList_copy_splice rfl (.tmp 10) (.tmp 11) 25 25 rfl 5 Try.underlying25 impl_bytCopy.siz (some ⟨w.heap.size, 0, none⟩) (some ad) n n n c0 rfl rfl w.heap.size 0 (List.replicate n (.int .u8 0)) 5 (impl_bytCopy.blk w n) (nums .u8 l0) (by rw [nums_length, ← HN.out]; exact (Nat.min_self n).symm) (fun _ => ⟨rfl, ad, rfl, impl_bytCopy.far HCELL⟩) (by rw [nums_length, List.length_replicate, ← HN.out]; omega) (impl_bytCopy.onec l0) w.heap.size w (below_alloc (Below.refl _ _) _) (Nat.le_refl _) ?_; intro w' hw' hb'; have HW := Aside0.mk hw'.out; have HB := Aside0.mk hb'; clear hw' hb' hmk)
      go_ret
      have hn := HN.out
      clear HN
      subst hn
      have hL := HL.out
      refine ⟨.slice (some ⟨w.heap.size, 0, none⟩) l0.length l0.length, rfl, Kd.R_of_own ?_ (fun _ _ => trivial), HB.out⟩
      refine ⟨by simp [encs], .inr ⟨w.heap.size, l0.length, _, rfl, Nat.le_refl _, HW.out, Nat.le_refl _, by unfold maxLen; omega, ?_, ?_⟩⟩
      · simp [splice, nums_length]
      · simp [splice, nums_length, encs, nums]
        exact List.take_of_length_le (by simp)
  · rw [if_neg hl] at h; cases h


end Go.Proofs.Ytinbciedkhjcmaa.Z
