-- Text written for this claim by the session's program wip/xprint.py over the kit's print. Not trusted: the checker reads it.
import Derived.Test.YtinbciedkhjcmaaZ0
import Derived.Test.YtinbciedkhjcmaaZ1
import Derived.Test.YtinbciedkhjcmaaZ6
import Derived.Test.YtinbciedkhjcmaaZ8
import Derived.Test.YtinbciedkhjcmaaZ14
import Derived.Test.YtinbciedkhjcmaaZ18
import Derived.Test.YtinbciedkhjcmaaZ20
import Derived.Test.YtinbciedkhjcmaaZ22
namespace Go.Proofs.Ytinbciedkhjcmaa.Z
open Go.RowKit Go.Proofs.YtinbciedkhjcmaaW.PrintWords Go.Proofs.YtinbciedkhjcmaaW.PrintLast Go.Proofs.YtinbciedkhjcmaaW.PrintMore
attribute [local go_sem] max2_int min2_int max_two min_two max_three min_three max_four min_four   -- for this text's walks alone
set_option linter.unusedVariables false
set_option linter.unusedSimpArgs false

/-! ### laws_FnExactCelInput: function 3 -/
mutual
def laws_FnExactCelInput.j0 : Nat → Int → Bool → Bool → Bool → Int → List Int → List Int → Int → List Int → Int → List Int → List Int → Int → List Int → Int → List Int → List Int → Int → List Int → Int → List Int → List Int → Int → List Int → Option (Bool)
  | 0, _, _, _, _, _, _, _, _, _, _, _, _, _, _, _, _, _, _, _, _, _, _, _, _ => none
  | k + 1, x1, x7, x10, x44, x276000, x276001, x276002, x276003, x276004, x301000, x301001, x301002, x301003, x301004, x313000, x313001, x313002, x313003, x313004, x326000, x326001, x326002, x326003, x326004 => if x44 = true then (some false) else ((laws_toCelCell.f k x276000 x276001 x276002 x276003 x276004).bind fun bt327 => ((laws_eqCelCell.f k x313000 x313001 x313002 x313003 x313004 bt327.1 bt327.2.1 bt327.2.2.1 bt327.2.2.2.1 bt327.2.2.2.2).bind fun t338 => (if t338 = true then ((laws_markCelCell.f k x313000 x313001 x313002 x313003 x313004 1).bind fun bt339 => (if bt339.1 < 0 then (laws_FnExactCelInput.j1 k x1 x7 true x276000 x276001 x276002 x276003 x276004 x301000 x301001 x301002 x301003 x301004 x326000 x326001 x326002 x326003 x326004) else ((laws_eqCelCell.f k x326000 x326001 x326002 x326003 x326004 x301000 x301001 x301002 x301003 x301004).bind fun t343 => (if t343 = true then (laws_FnExactCelInput.j1 k x1 x7 (x10 != x7) x276000 x276001 x276002 x276003 x276004 x301000 x301001 x301002 x301003 x301004 x326000 x326001 x326002 x326003 x326004) else (laws_FnExactCelInput.j1 k x1 x7 true x276000 x276001 x276002 x276003 x276004 x301000 x301001 x301002 x301003 x301004 x326000 x326001 x326002 x326003 x326004))))) else (some false))))
def laws_FnExactCelInput.j1 : Nat → Int → Bool → Bool → Int → List Int → List Int → Int → List Int → Int → List Int → List Int → Int → List Int → Int → List Int → List Int → Int → List Int → Option (Bool)
  | 0, _, _, _, _, _, _, _, _, _, _, _, _, _, _, _, _, _, _ => none
  | k + 1, x1, x7, x65, x276000, x276001, x276002, x276003, x276004, x301000, x301001, x301002, x301003, x301004, x326000, x326001, x326002, x326003, x326004 => if x65 = true then (some false) else ((laws_markCelCell.f k x326000 x326001 x326002 x326003 x326004 1).bind fun bt344 => ((laws_heldCelCell.f k x326000 bt344.2.1 bt344.2.2.1 x326003 bt344.2.2.2 1).bind fun t348 => (if t348 < 0 then (some false) else (if t348 = bt344.1 then ((laws_toCelCell.f k x276000 x276001 x276002 x276003 x276004).bind fun bt349 => ((impl_CelInput.f k bt349.1 bt349.2.1 bt349.2.2.1 bt349.2.2.2.1 bt349.2.2.2.2 x1).bind fun bt360 => ((laws_eqCelCell.f k bt360.1 bt360.2.1 bt360.2.2.1 bt360.2.2.2.1 bt360.2.2.2.2.1 x301000 x301001 x301002 x301003 x301004).bind fun t373 => (if t373 = true then (laws_FnExactCelInput.j2 k bt344.1 (bt360.2.2.2.2.2 != x7) x326000 bt344.2.1 bt344.2.2.1 x326003 bt344.2.2.2) else (laws_FnExactCelInput.j2 k bt344.1 true x326000 bt344.2.1 bt344.2.2.1 x326003 bt344.2.2.2))))) else (some false)))))
def laws_FnExactCelInput.j2 : Nat → Int → Bool → Int → List Int → List Int → Int → List Int → Option (Bool)
  | 0, _, _, _, _, _, _, _ => none
  | k + 1, x12, x92, x326000, x326001, x326002, x326003, x326004 => if x92 = true then (some false) else ((laws_heldCelCell.f k x326000 x326001 x326002 x326003 x326004 1).bind fun t374 => (if t374 < 0 then (some false) else (if t374 = x12 then (some true) else (some false))))
end
def laws_FnExactCelInput.f (k : Nat) (a0_0 : Int) (l0_1 : List Int) (l0_2 : List Int) (a0_3 : Int) (l0_4 : List Int) (a1 : Int) : Option (Bool) := (laws_szCelCell.f a0_0 l0_1 l0_2 a0_3 l0_4 1048576).bind fun t276 => (if t276 < 0 then (some true) else ((laws_toCelCell.f k a0_0 l0_1 l0_2 a0_3 l0_4).bind fun bt277 => ((spec_CelInput.f k bt277.1 bt277.2.1 bt277.2.2.1 bt277.2.2.2.1 bt277.2.2.2.2 a1).bind fun bt288 => ((laws_toCelCell.f k a0_0 l0_1 l0_2 a0_3 l0_4).bind fun bt301 => ((impl_CelInput.f k bt301.1 bt301.2.1 bt301.2.2.1 bt301.2.2.2.1 bt301.2.2.2.2 a1).bind fun bt313 => ((laws_eqCelCell.f k bt313.1 bt313.2.1 bt313.2.2.1 bt313.2.2.2.1 bt313.2.2.2.2.1 bt288.1 bt288.2.1 bt288.2.2.1 bt288.2.2.2.1 bt288.2.2.2.2.1).bind fun t326 => (if t326 = true then (laws_FnExactCelInput.j0 k a1 bt288.2.2.2.2.2 bt313.2.2.2.2.2 (bt313.2.2.2.2.2 != bt288.2.2.2.2.2) a0_0 l0_1 l0_2 a0_3 l0_4 bt288.1 bt288.2.1 bt288.2.2.1 bt288.2.2.2.1 bt288.2.2.2.2.1 bt301.1 bt301.2.1 bt301.2.2.1 bt301.2.2.2.1 bt301.2.2.2.2 bt313.1 bt313.2.1 bt313.2.2.1 bt313.2.2.2.1 bt313.2.2.2.2.1) else (laws_FnExactCelInput.j0 k a1 bt288.2.2.2.2.2 bt313.2.2.2.2.2 true a0_0 l0_1 l0_2 a0_3 l0_4 bt288.1 bt288.2.1 bt288.2.2.1 bt288.2.2.2.1 bt288.2.2.2.2.1 bt301.1 bt301.2.1 bt301.2.2.1 bt301.2.2.2.1 bt301.2.2.2.2 bt313.1 bt313.2.1 bt313.2.2.1 bt313.2.2.2.1 bt313.2.2.2.2.1))))))))
theorem laws_FnExactCelInput.mono_l : ∀ k, (∀ y0 y1 y2 y3 y4 y5 y6 y7 y8 y9 y10 y11 y12 y13 y14 y15 y16 y17 y18 y19 y20 y21 y22 y23, LeO (laws_FnExactCelInput.j0 k y0 y1 y2 y3 y4 y5 y6 y7 y8 y9 y10 y11 y12 y13 y14 y15 y16 y17 y18 y19 y20 y21 y22 y23) (laws_FnExactCelInput.j0 (k + 1) y0 y1 y2 y3 y4 y5 y6 y7 y8 y9 y10 y11 y12 y13 y14 y15 y16 y17 y18 y19 y20 y21 y22 y23)) ∧ (∀ y0 y1 y2 y3 y4 y5 y6 y7 y8 y9 y10 y11 y12 y13 y14 y15 y16 y17, LeO (laws_FnExactCelInput.j1 k y0 y1 y2 y3 y4 y5 y6 y7 y8 y9 y10 y11 y12 y13 y14 y15 y16 y17) (laws_FnExactCelInput.j1 (k + 1) y0 y1 y2 y3 y4 y5 y6 y7 y8 y9 y10 y11 y12 y13 y14 y15 y16 y17)) ∧ (∀ y0 y1 y2 y3 y4 y5 y6, LeO (laws_FnExactCelInput.j2 k y0 y1 y2 y3 y4 y5 y6) (laws_FnExactCelInput.j2 (k + 1) y0 y1 y2 y3 y4 y5 y6))
  | 0 => ⟨fun _ _ _ _ _ _ _ _ _ _ _ _ _ _ _ _ _ _ _ _ _ _ _ _ r h => by simp [laws_FnExactCelInput.j0] at h, fun _ _ _ _ _ _ _ _ _ _ _ _ _ _ _ _ _ _ r h => by simp [laws_FnExactCelInput.j1] at h, fun _ _ _ _ _ _ _ r h => by simp [laws_FnExactCelInput.j2] at h⟩
  | k + 1 => by
    obtain ⟨ih0, ih1, ih2⟩ := laws_FnExactCelInput.mono_l k
    refine ⟨?_, ?_, ?_⟩
    · intro y0 y1 y2 y3 y4 y5 y6 y7 y8 y9 y10 y11 y12 y13 y14 y15 y16 y17 y18 y19 y20 y21 y22 y23
      unfold laws_FnExactCelInput.j0
      repeat' first
      | (with_reducible exact ih0 _ _ _ _ _ _ _ _ _ _ _ _ _ _ _ _ _ _ _ _ _ _ _ _)
      | (with_reducible exact ih1 _ _ _ _ _ _ _ _ _ _ _ _ _ _ _ _ _ _)
      | (with_reducible exact ih2 _ _ _ _ _ _ _)
      | (with_reducible exact impl_CelInput.mono _ _ _ _ _ _ _)
      | (with_reducible exact laws_eqCelCell.mono _ _ _ _ _ _ _ _ _ _ _)
      | (with_reducible exact laws_heldCelCell.mono _ _ _ _ _ _ _)
      | (with_reducible exact laws_markCelCell.mono _ _ _ _ _ _ _)
      | (with_reducible exact laws_toCelCell.mono _ _ _ _ _ _)
      | (with_reducible exact spec_CelInput.mono _ _ _ _ _ _ _)
      | (with_reducible exact LeO.refl _)
      | (with_reducible exact LeO.none _)
      | (with_reducible refine LeO.ite ?_ ?_)
      | (with_reducible refine LeO.bind ?_ (fun _ => ?_))
      | exact ih0 _ _ _ _ _ _ _ _ _ _ _ _ _ _ _ _ _ _ _ _ _ _ _ _
      | exact ih1 _ _ _ _ _ _ _ _ _ _ _ _ _ _ _ _ _ _
      | exact ih2 _ _ _ _ _ _ _
      | exact impl_CelInput.mono _ _ _ _ _ _ _
      | exact laws_eqCelCell.mono _ _ _ _ _ _ _ _ _ _ _
      | exact laws_heldCelCell.mono _ _ _ _ _ _ _
      | exact laws_markCelCell.mono _ _ _ _ _ _ _
      | exact laws_toCelCell.mono _ _ _ _ _ _
      | exact spec_CelInput.mono _ _ _ _ _ _ _
      | exact LeO.none _
      | refine LeO.ite ?_ ?_
      | refine LeO.bind ?_ (fun _ => ?_)
    · intro y0 y1 y2 y3 y4 y5 y6 y7 y8 y9 y10 y11 y12 y13 y14 y15 y16 y17
      unfold laws_FnExactCelInput.j1
      repeat' first
      | (with_reducible exact ih0 _ _ _ _ _ _ _ _ _ _ _ _ _ _ _ _ _ _ _ _ _ _ _ _)
      | (with_reducible exact ih1 _ _ _ _ _ _ _ _ _ _ _ _ _ _ _ _ _ _)
      | (with_reducible exact ih2 _ _ _ _ _ _ _)
      | (with_reducible exact impl_CelInput.mono _ _ _ _ _ _ _)
      | (with_reducible exact laws_eqCelCell.mono _ _ _ _ _ _ _ _ _ _ _)
      | (with_reducible exact laws_heldCelCell.mono _ _ _ _ _ _ _)
      | (with_reducible exact laws_markCelCell.mono _ _ _ _ _ _ _)
      | (with_reducible exact laws_toCelCell.mono _ _ _ _ _ _)
      | (with_reducible exact spec_CelInput.mono _ _ _ _ _ _ _)
      | (with_reducible exact LeO.refl _)
      | (with_reducible exact LeO.none _)
      | (with_reducible refine LeO.ite ?_ ?_)
      | (with_reducible refine LeO.bind ?_ (fun _ => ?_))
      | exact ih0 _ _ _ _ _ _ _ _ _ _ _ _ _ _ _ _ _ _ _ _ _ _ _ _
      | exact ih1 _ _ _ _ _ _ _ _ _ _ _ _ _ _ _ _ _ _
      | exact ih2 _ _ _ _ _ _ _
      | exact impl_CelInput.mono _ _ _ _ _ _ _
      | exact laws_eqCelCell.mono _ _ _ _ _ _ _ _ _ _ _
      | exact laws_heldCelCell.mono _ _ _ _ _ _ _
      | exact laws_markCelCell.mono _ _ _ _ _ _ _
      | exact laws_toCelCell.mono _ _ _ _ _ _
      | exact spec_CelInput.mono _ _ _ _ _ _ _
      | exact LeO.none _
      | refine LeO.ite ?_ ?_
      | refine LeO.bind ?_ (fun _ => ?_)
    · intro y0 y1 y2 y3 y4 y5 y6
      unfold laws_FnExactCelInput.j2
      repeat' first
      | (with_reducible exact ih0 _ _ _ _ _ _ _ _ _ _ _ _ _ _ _ _ _ _ _ _ _ _ _ _)
      | (with_reducible exact ih1 _ _ _ _ _ _ _ _ _ _ _ _ _ _ _ _ _ _)
      | (with_reducible exact ih2 _ _ _ _ _ _ _)
      | (with_reducible exact impl_CelInput.mono _ _ _ _ _ _ _)
      | (with_reducible exact laws_eqCelCell.mono _ _ _ _ _ _ _ _ _ _ _)
      | (with_reducible exact laws_heldCelCell.mono _ _ _ _ _ _ _)
      | (with_reducible exact laws_markCelCell.mono _ _ _ _ _ _ _)
      | (with_reducible exact laws_toCelCell.mono _ _ _ _ _ _)
      | (with_reducible exact spec_CelInput.mono _ _ _ _ _ _ _)
      | (with_reducible exact LeO.refl _)
      | (with_reducible exact LeO.none _)
      | (with_reducible refine LeO.ite ?_ ?_)
      | (with_reducible refine LeO.bind ?_ (fun _ => ?_))
      | exact ih0 _ _ _ _ _ _ _ _ _ _ _ _ _ _ _ _ _ _ _ _ _ _ _ _
      | exact ih1 _ _ _ _ _ _ _ _ _ _ _ _ _ _ _ _ _ _
      | exact ih2 _ _ _ _ _ _ _
      | exact impl_CelInput.mono _ _ _ _ _ _ _
      | exact laws_eqCelCell.mono _ _ _ _ _ _ _ _ _ _ _
      | exact laws_heldCelCell.mono _ _ _ _ _ _ _
      | exact laws_markCelCell.mono _ _ _ _ _ _ _
      | exact laws_toCelCell.mono _ _ _ _ _ _
      | exact spec_CelInput.mono _ _ _ _ _ _ _
      | exact LeO.none _
      | refine LeO.ite ?_ ?_
      | refine LeO.bind ?_ (fun _ => ?_)
theorem laws_FnExactCelInput.mono : ∀ a0 a1 a2 a3 a4 a5 k, LeO (laws_FnExactCelInput.f k a0 a1 a2 a3 a4 a5) (laws_FnExactCelInput.f (k + 1) a0 a1 a2 a3 a4 a5) := by
  intro a0 a1 a2 a3 a4 a5 k
  obtain ⟨ih0, ih1, ih2⟩ := laws_FnExactCelInput.mono_l k
  unfold laws_FnExactCelInput.f
  repeat' first
      | (with_reducible exact ih0 _ _ _ _ _ _ _ _ _ _ _ _ _ _ _ _ _ _ _ _ _ _ _ _)
      | (with_reducible exact ih1 _ _ _ _ _ _ _ _ _ _ _ _ _ _ _ _ _ _)
      | (with_reducible exact ih2 _ _ _ _ _ _ _)
      | (with_reducible exact impl_CelInput.mono _ _ _ _ _ _ _)
      | (with_reducible exact laws_eqCelCell.mono _ _ _ _ _ _ _ _ _ _ _)
      | (with_reducible exact laws_heldCelCell.mono _ _ _ _ _ _ _)
      | (with_reducible exact laws_markCelCell.mono _ _ _ _ _ _ _)
      | (with_reducible exact laws_toCelCell.mono _ _ _ _ _ _)
      | (with_reducible exact spec_CelInput.mono _ _ _ _ _ _ _)
      | (with_reducible exact LeO.refl _)
      | (with_reducible exact LeO.none _)
      | (with_reducible refine LeO.ite ?_ ?_)
      | (with_reducible refine LeO.bind ?_ (fun _ => ?_))
      | exact ih0 _ _ _ _ _ _ _ _ _ _ _ _ _ _ _ _ _ _ _ _ _ _ _ _
      | exact ih1 _ _ _ _ _ _ _ _ _ _ _ _ _ _ _ _ _ _
      | exact ih2 _ _ _ _ _ _ _
      | exact impl_CelInput.mono _ _ _ _ _ _ _
      | exact laws_eqCelCell.mono _ _ _ _ _ _ _ _ _ _ _
      | exact laws_heldCelCell.mono _ _ _ _ _ _ _
      | exact laws_markCelCell.mono _ _ _ _ _ _ _
      | exact laws_toCelCell.mono _ _ _ _ _ _
      | exact spec_CelInput.mono _ _ _ _ _ _ _
      | exact LeO.none _
      | refine LeO.ite ?_ ?_
      | refine LeO.bind ?_ (fun _ => ?_)
set_option maxHeartbeats 8000000 in
set_option maxRecDepth 100000 in
theorem laws_FnExactCelInput.calls (k : Nat) (a0_0 : Int) (A0_1 : Option Addr) (c0_1 : Nat) (l0_1 : List Int) (A0_2 : Option Addr) (c0_2 : Nat) (l0_2 : List Int) (a0_3 : Int) (A0_4 : Option Addr) (c0_4 : Nat) (l0_4 : List Int) (a1 : Int) (r : Bool) (w : World) (hr0_1 : Kd.C (Kd.int .i64) w A0_1 l0_1.length l0_1) (hc0_1 : l0_1.length ≤ c0_1) (hr0_2 : Kd.C (Kd.int .i64) w A0_2 l0_2.length l0_2) (hc0_2 : l0_2.length ≤ c0_2) (hr0_4 : Kd.C (Kd.int .u8) w A0_4 l0_4.length l0_4) (hc0_4 : l0_4.length ≤ c0_4) (h : laws_FnExactCelInput.f k a0_0 l0_1 l0_2 a0_3 l0_4 a1 = some r) (htrue : Aside0 (r = true)) :
    Calls Try.prog 3 #[.agg #[.int .i64 a0_0, .slice A0_1 l0_1.length c0_1, .slice A0_2 l0_2.length c0_2, .int .i64 a0_3, .slice A0_4 l0_4.length c0_4], .int .i64 a1] w fun e w' => e = .returned (.bool r) ∧ Below w.heap.size w w' := by
  have hu27 := Try.underlying27
  have hu31 := Try.underlying31
  have HR0_1 := Aside0.mk hr0_1
  have HC0_1 := Aside0.mk hc0_1
  clear hr0_1 hc0_1
  have HR0_2 := Aside0.mk hr0_2
  have HC0_2 := Aside0.mk hc0_2
  clear hr0_2 hc0_2
  have HR0_4 := Aside0.mk hr0_4
  have HC0_4 := Aside0.mk hc0_4
  clear hr0_4 hc0_4
  have HB := Aside0.mk (Below.refl w.heap.size w)
  have H : ((laws_szCelCell.f a0_0 l0_1 l0_2 a0_3 l0_4 1048576).bind fun t276 => (if t276 < 0 then (some true) else ((laws_toCelCell.f k a0_0 l0_1 l0_2 a0_3 l0_4).bind fun bt277 => ((spec_CelInput.f k bt277.1 bt277.2.1 bt277.2.2.1 bt277.2.2.2.1 bt277.2.2.2.2 a1).bind fun bt288 => ((laws_toCelCell.f k a0_0 l0_1 l0_2 a0_3 l0_4).bind fun bt301 => ((impl_CelInput.f k bt301.1 bt301.2.1 bt301.2.2.1 bt301.2.2.2.1 bt301.2.2.2.2 a1).bind fun bt313 => ((laws_eqCelCell.f k bt313.1 bt313.2.1 bt313.2.2.1 bt313.2.2.2.1 bt313.2.2.2.2.1 bt288.1 bt288.2.1 bt288.2.2.1 bt288.2.2.2.1 bt288.2.2.2.2.1).bind fun t326 => (if t326 = true then (laws_FnExactCelInput.j0 k a1 bt288.2.2.2.2.2 bt313.2.2.2.2.2 (bt313.2.2.2.2.2 != bt288.2.2.2.2.2) a0_0 l0_1 l0_2 a0_3 l0_4 bt288.1 bt288.2.1 bt288.2.2.1 bt288.2.2.2.1 bt288.2.2.2.2.1 bt301.1 bt301.2.1 bt301.2.2.1 bt301.2.2.2.1 bt301.2.2.2.2 bt313.1 bt313.2.1 bt313.2.2.1 bt313.2.2.2.1 bt313.2.2.2.2.1) else (laws_FnExactCelInput.j0 k a1 bt288.2.2.2.2.2 bt313.2.2.2.2.2 true a0_0 l0_1 l0_2 a0_3 l0_4 bt288.1 bt288.2.1 bt288.2.2.1 bt288.2.2.2.1 bt288.2.2.2.2.1 bt301.1 bt301.2.1 bt301.2.2.1 bt301.2.2.2.1 bt301.2.2.2.2 bt313.1 bt313.2.1 bt313.2.2.1 bt313.2.2.2.1 bt313.2.2.2.2.1))))))))) = some r := h
  clear h
  replace H := Option.bind_eq_some_iff.mp H
  obtain ⟨t276, A30, H⟩ := H
  replace H : (if t276 < 0 then (some true) else ((laws_toCelCell.f k a0_0 l0_1 l0_2 a0_3 l0_4).bind fun bt277 => ((spec_CelInput.f k bt277.1 bt277.2.1 bt277.2.2.1 bt277.2.2.2.1 bt277.2.2.2.2 a1).bind fun bt288 => ((laws_toCelCell.f k a0_0 l0_1 l0_2 a0_3 l0_4).bind fun bt301 => ((impl_CelInput.f k bt301.1 bt301.2.1 bt301.2.2.1 bt301.2.2.2.1 bt301.2.2.2.2 a1).bind fun bt313 => ((laws_eqCelCell.f k bt313.1 bt313.2.1 bt313.2.2.1 bt313.2.2.2.1 bt313.2.2.2.2.1 bt288.1 bt288.2.1 bt288.2.2.1 bt288.2.2.2.1 bt288.2.2.2.2.1).bind fun t326 => (if t326 = true then (laws_FnExactCelInput.j0 k a1 bt288.2.2.2.2.2 bt313.2.2.2.2.2 (bt313.2.2.2.2.2 != bt288.2.2.2.2.2) a0_0 l0_1 l0_2 a0_3 l0_4 bt288.1 bt288.2.1 bt288.2.2.1 bt288.2.2.2.1 bt288.2.2.2.2.1 bt301.1 bt301.2.1 bt301.2.2.1 bt301.2.2.2.1 bt301.2.2.2.2 bt313.1 bt313.2.1 bt313.2.2.1 bt313.2.2.2.1 bt313.2.2.2.2.1) else (laws_FnExactCelInput.j0 k a1 bt288.2.2.2.2.2 bt313.2.2.2.2.2 true a0_0 l0_1 l0_2 a0_3 l0_4 bt288.1 bt288.2.1 bt288.2.2.1 bt288.2.2.2.1 bt288.2.2.2.2.1 bt301.1 bt301.2.1 bt301.2.2.1 bt301.2.2.2.1 bt301.2.2.2.2 bt313.1 bt313.2.1 bt313.2.2.1 bt313.2.2.2.1 bt313.2.2.2.2.1)))))))) = some r := H
  have A3 := Aside0.mk A30
  clear A30
  by_cases c4 : t276 < 0
  · rw [if_pos c4] at H
    have c4b0 : decide (t276 < 0) = true := decide_eq_true c4
    clear c4
    obtain rfl := Option.some.inj H
    go_enter Try.func3, Try.ntmps3
    go_wp2_with (first | ((with_reducible refine gate_dst (N := 2) rfl ?_); refine bx_ (N := 2) (cs := #[.int .i64 a0_0, .slice A0_1 l0_1.length c0_1, .slice A0_2 l0_2.length c0_2, .int .i64 a0_3, .slice A0_4 l0_4.length c0_4]) (t := 27) ?_; intro gb275 hg w5 hbox hb; have n0_ := Aside0.mk (below_step hb_ hb); have n1_ := Aside0.mk (hbox); have n2_ := Aside0.mk ((hg_ : w.heap.size ≤ gb275)); have n3_ := Aside0.mk ((hg_ : w.heap.size ≤ gb275)); clear HB; have HB := n0_; have BK275 := n1_; have GW275 := n2_; have GE275 := n3_; clear n0_ n1_ n2_ n3_; clear hb hbox hg; have hcz6_0 : w5.cell? ⟨gb275, 0, none⟩ = some (.int .i64 a0_0) := (blk_cell BK275.out 0).trans rfl; have hcz6_1 : w5.cell? ⟨gb275, 1, none⟩ = some (.slice A0_1 l0_1.length c0_1) := (blk_cell BK275.out 1).trans rfl; have hcz6_2 : w5.cell? ⟨gb275, 2, none⟩ = some (.slice A0_2 l0_2.length c0_2) := (blk_cell BK275.out 2).trans rfl; have hcz6_3 : w5.cell? ⟨gb275, 3, none⟩ = some (.int .i64 a0_3) := (blk_cell BK275.out 3).trans rfl; have hcz6_4 : w5.cell? ⟨gb275, 4, none⟩ = some (.slice A0_4 l0_4.length c0_4) := (blk_cell BK275.out 4).trans rfl; have hfz6_0 := blk_frozen BK275.out 0; have hfz6_1 := blk_frozen BK275.out 1; have hfz6_2 := blk_frozen BK275.out 2; have hfz6_3 := blk_frozen BK275.out 3; have hfz6_4 := blk_frozen BK275.out 4) | ((with_reducible refine gate_callee (f := 5) rfl ?_); refine goesL_ (some 18) rfl rfl Try.func5 (by kernel_rfl) rfl #[.agg #[.int .i64 a0_0, .slice A0_1 l0_1.length c0_1, .slice A0_2 l0_2.length c0_2, .int .i64 a0_3, .slice A0_4 l0_4.length c0_4], .int .i64 1048576] rfl ml_ ?_; (with_reducible refine (laws_szCelCell.calls a0_0 _ _ l0_1 _ _ l0_2 a0_3 _ _ l0_4 1048576 t276 _ ?side1 ?side2 ?side3 ?side4 ?side5 ?side6 A3.out).mono ?_); (case side1 => repeat (first | exact (Kd.C_below HR0_1.out HB.out) | (with_reducible refine Kd.C_alloc ?_ _) | (with_reducible refine Kd.C_drewN ?_ _) | (with_reducible refine Kd.C_drew ?_))); (case side2 => exact HC0_1.out); (case side3 => repeat (first | exact (Kd.C_below HR0_2.out HB.out) | (with_reducible refine Kd.C_alloc ?_ _) | (with_reducible refine Kd.C_drewN ?_ _) | (with_reducible refine Kd.C_drew ?_))); (case side4 => exact HC0_2.out); (case side5 => repeat (first | exact (Kd.C_below HR0_4.out HB.out) | (with_reducible refine Kd.C_alloc ?_ _) | (with_reducible refine Kd.C_drewN ?_ _) | (with_reducible refine Kd.C_drew ?_))); (case side6 => exact HC0_4.out); rintro e w7 ⟨rfl, hb⟩; refine ⟨_, rfl, ?_⟩; have n0_ := Aside0.mk (blk_below (g := gb275) (o := .cells #[.int .i64 a0_0, .slice A0_1 l0_1.length c0_1, .slice A0_2 l0_2.length c0_2, .int .i64 a0_3, .slice A0_4 l0_4.length c0_4] 27 (0, 0)) bk_ hb); have n1_ := Aside0.mk (below_step hb_ hb); clear BK275; clear HB; have BK275 := n0_; have HB := n1_; clear n0_ n1_; (try clear hb); (try clear hb2); (try clear hk); (try clear hi)))
    go_ret
    exact ⟨by first | rfl | (simp [errW_none, errW_some] <;> rfl) | (simp [*, errW_none, errW_some] <;> rfl), hb_⟩
  · rw [if_neg c4] at H
    have c4b0 : decide (t276 < 0) = false := decide_eq_false c4
    clear c4
    replace H := Option.bind_eq_some_iff.mp H
    obtain ⟨⟨t277, t278, t281, t284, t285⟩, A80, H⟩ := H
    replace H : ((spec_CelInput.f k t277 t278 t281 t284 t285 a1).bind fun bt288 => ((laws_toCelCell.f k a0_0 l0_1 l0_2 a0_3 l0_4).bind fun bt301 => ((impl_CelInput.f k bt301.1 bt301.2.1 bt301.2.2.1 bt301.2.2.2.1 bt301.2.2.2.2 a1).bind fun bt313 => ((laws_eqCelCell.f k bt313.1 bt313.2.1 bt313.2.2.1 bt313.2.2.2.1 bt313.2.2.2.2.1 bt288.1 bt288.2.1 bt288.2.2.1 bt288.2.2.2.1 bt288.2.2.2.2.1).bind fun t326 => (if t326 = true then (laws_FnExactCelInput.j0 k a1 bt288.2.2.2.2.2 bt313.2.2.2.2.2 (bt313.2.2.2.2.2 != bt288.2.2.2.2.2) a0_0 l0_1 l0_2 a0_3 l0_4 bt288.1 bt288.2.1 bt288.2.2.1 bt288.2.2.2.1 bt288.2.2.2.2.1 bt301.1 bt301.2.1 bt301.2.2.1 bt301.2.2.2.1 bt301.2.2.2.2 bt313.1 bt313.2.1 bt313.2.2.1 bt313.2.2.2.1 bt313.2.2.2.2.1) else (laws_FnExactCelInput.j0 k a1 bt288.2.2.2.2.2 bt313.2.2.2.2.2 true a0_0 l0_1 l0_2 a0_3 l0_4 bt288.1 bt288.2.1 bt288.2.2.1 bt288.2.2.2.1 bt288.2.2.2.2.1 bt301.1 bt301.2.1 bt301.2.2.1 bt301.2.2.2.1 bt301.2.2.2.2 bt313.1 bt313.2.1 bt313.2.2.1 bt313.2.2.2.1 bt313.2.2.2.2.1)))))) = some r := H
    have A8 := Aside0.mk A80
    clear A80
    replace H := Option.bind_eq_some_iff.mp H
    obtain ⟨⟨t288, t289, t292, t295, t296, t299⟩, A90, H⟩ := H
    replace H : ((laws_toCelCell.f k a0_0 l0_1 l0_2 a0_3 l0_4).bind fun bt301 => ((impl_CelInput.f k bt301.1 bt301.2.1 bt301.2.2.1 bt301.2.2.2.1 bt301.2.2.2.2 a1).bind fun bt313 => ((laws_eqCelCell.f k bt313.1 bt313.2.1 bt313.2.2.1 bt313.2.2.2.1 bt313.2.2.2.2.1 t288 t289 t292 t295 t296).bind fun t326 => (if t326 = true then (laws_FnExactCelInput.j0 k a1 t299 bt313.2.2.2.2.2 (bt313.2.2.2.2.2 != t299) a0_0 l0_1 l0_2 a0_3 l0_4 t288 t289 t292 t295 t296 bt301.1 bt301.2.1 bt301.2.2.1 bt301.2.2.2.1 bt301.2.2.2.2 bt313.1 bt313.2.1 bt313.2.2.1 bt313.2.2.2.1 bt313.2.2.2.2.1) else (laws_FnExactCelInput.j0 k a1 t299 bt313.2.2.2.2.2 true a0_0 l0_1 l0_2 a0_3 l0_4 t288 t289 t292 t295 t296 bt301.1 bt301.2.1 bt301.2.2.1 bt301.2.2.2.1 bt301.2.2.2.2 bt313.1 bt313.2.1 bt313.2.2.1 bt313.2.2.2.1 bt313.2.2.2.2.1))))) = some r := H
    have A9 := Aside0.mk A90
    clear A90
    replace H := Option.bind_eq_some_iff.mp H
    obtain ⟨⟨t301, t302, t305, t308, t309⟩, A100, H⟩ := H
    replace H : ((impl_CelInput.f k t301 t302 t305 t308 t309 a1).bind fun bt313 => ((laws_eqCelCell.f k bt313.1 bt313.2.1 bt313.2.2.1 bt313.2.2.2.1 bt313.2.2.2.2.1 t288 t289 t292 t295 t296).bind fun t326 => (if t326 = true then (laws_FnExactCelInput.j0 k a1 t299 bt313.2.2.2.2.2 (bt313.2.2.2.2.2 != t299) a0_0 l0_1 l0_2 a0_3 l0_4 t288 t289 t292 t295 t296 t301 t302 t305 t308 t309 bt313.1 bt313.2.1 bt313.2.2.1 bt313.2.2.2.1 bt313.2.2.2.2.1) else (laws_FnExactCelInput.j0 k a1 t299 bt313.2.2.2.2.2 true a0_0 l0_1 l0_2 a0_3 l0_4 t288 t289 t292 t295 t296 t301 t302 t305 t308 t309 bt313.1 bt313.2.1 bt313.2.2.1 bt313.2.2.2.1 bt313.2.2.2.2.1)))) = some r := H
    have A10 := Aside0.mk A100
    clear A100
    replace H := Option.bind_eq_some_iff.mp H
    obtain ⟨⟨t313, t314, t317, t320, t321, t324⟩, A110, H⟩ := H
    replace H : ((laws_eqCelCell.f k t313 t314 t317 t320 t321 t288 t289 t292 t295 t296).bind fun t326 => (if t326 = true then (laws_FnExactCelInput.j0 k a1 t299 t324 (t324 != t299) a0_0 l0_1 l0_2 a0_3 l0_4 t288 t289 t292 t295 t296 t301 t302 t305 t308 t309 t313 t314 t317 t320 t321) else (laws_FnExactCelInput.j0 k a1 t299 t324 true a0_0 l0_1 l0_2 a0_3 l0_4 t288 t289 t292 t295 t296 t301 t302 t305 t308 t309 t313 t314 t317 t320 t321))) = some r := H
    have A11 := Aside0.mk A110
    clear A110
    have HC12 := Aside0.mk H
    clear H
    go_enter Try.func3, Try.ntmps3
    go_upto_region 8 with (first | ((with_reducible refine gate_dst (N := 2) rfl ?_); refine bx_ (N := 2) (cs := #[.int .i64 a0_0, .slice A0_1 l0_1.length c0_1, .slice A0_2 l0_2.length c0_2, .int .i64 a0_3, .slice A0_4 l0_4.length c0_4]) (t := 27) ?_; intro gb275 hg w13 hbox hb; have n0_ := Aside0.mk (below_step hb_ hb); have n1_ := Aside0.mk (hbox); have n2_ := Aside0.mk ((hg_ : w.heap.size ≤ gb275)); have n3_ := Aside0.mk ((hg_ : w.heap.size ≤ gb275)); clear HB; have HB := n0_; have BK275 := n1_; have GW275 := n2_; have GE275 := n3_; clear n0_ n1_ n2_ n3_; clear hb hbox hg; have hcz14_0 : w13.cell? ⟨gb275, 0, none⟩ = some (.int .i64 a0_0) := (blk_cell BK275.out 0).trans rfl; have hcz14_1 : w13.cell? ⟨gb275, 1, none⟩ = some (.slice A0_1 l0_1.length c0_1) := (blk_cell BK275.out 1).trans rfl; have hcz14_2 : w13.cell? ⟨gb275, 2, none⟩ = some (.slice A0_2 l0_2.length c0_2) := (blk_cell BK275.out 2).trans rfl; have hcz14_3 : w13.cell? ⟨gb275, 3, none⟩ = some (.int .i64 a0_3) := (blk_cell BK275.out 3).trans rfl; have hcz14_4 : w13.cell? ⟨gb275, 4, none⟩ = some (.slice A0_4 l0_4.length c0_4) := (blk_cell BK275.out 4).trans rfl; have hfz14_0 := blk_frozen BK275.out 0; have hfz14_1 := blk_frozen BK275.out 1; have hfz14_2 := blk_frozen BK275.out 2; have hfz14_3 := blk_frozen BK275.out 3; have hfz14_4 := blk_frozen BK275.out 4) | ((with_reducible refine gate_callee (f := 5) rfl ?_); refine goesL_ (some 18) rfl rfl Try.func5 (by kernel_rfl) rfl #[.agg #[.int .i64 a0_0, .slice A0_1 l0_1.length c0_1, .slice A0_2 l0_2.length c0_2, .int .i64 a0_3, .slice A0_4 l0_4.length c0_4], .int .i64 1048576] rfl ml_ ?_; (with_reducible refine (laws_szCelCell.calls a0_0 _ _ l0_1 _ _ l0_2 a0_3 _ _ l0_4 1048576 t276 _ ?side1 ?side2 ?side3 ?side4 ?side5 ?side6 A3.out).mono ?_); (case side1 => repeat (first | exact (Kd.C_below HR0_1.out HB.out) | (with_reducible refine Kd.C_alloc ?_ _) | (with_reducible refine Kd.C_drewN ?_ _) | (with_reducible refine Kd.C_drew ?_))); (case side2 => exact HC0_1.out); (case side3 => repeat (first | exact (Kd.C_below HR0_2.out HB.out) | (with_reducible refine Kd.C_alloc ?_ _) | (with_reducible refine Kd.C_drewN ?_ _) | (with_reducible refine Kd.C_drew ?_))); (case side4 => exact HC0_2.out); (case side5 => repeat (first | exact (Kd.C_below HR0_4.out HB.out) | (with_reducible refine Kd.C_alloc ?_ _) | (with_reducible refine Kd.C_drewN ?_ _) | (with_reducible refine Kd.C_drew ?_))); (case side6 => exact HC0_4.out); rintro e w15 ⟨rfl, hb⟩; refine ⟨_, rfl, ?_⟩; have n0_ := Aside0.mk (blk_below (g := gb275) (o := .cells #[.int .i64 a0_0, .slice A0_1 l0_1.length c0_1, .slice A0_2 l0_2.length c0_2, .int .i64 a0_3, .slice A0_4 l0_4.length c0_4] 27 (0, 0)) bk_ hb); have n1_ := Aside0.mk (below_step hb_ hb); clear BK275; clear HB; have BK275 := n0_; have HB := n1_; clear n0_ n1_; (try clear hb); (try clear hb2); (try clear hk); (try clear hi); have hcz16_0 : w15.cell? ⟨gb275, 0, none⟩ = some (.int .i64 a0_0) := (blk_cell BK275.out 0).trans rfl; have hcz16_1 : w15.cell? ⟨gb275, 1, none⟩ = some (.slice A0_1 l0_1.length c0_1) := (blk_cell BK275.out 1).trans rfl; have hcz16_2 : w15.cell? ⟨gb275, 2, none⟩ = some (.slice A0_2 l0_2.length c0_2) := (blk_cell BK275.out 2).trans rfl; have hcz16_3 : w15.cell? ⟨gb275, 3, none⟩ = some (.int .i64 a0_3) := (blk_cell BK275.out 3).trans rfl; have hcz16_4 : w15.cell? ⟨gb275, 4, none⟩ = some (.slice A0_4 l0_4.length c0_4) := (blk_cell BK275.out 4).trans rfl; have hfz16_0 := blk_frozen BK275.out 0; have hfz16_1 := blk_frozen BK275.out 1; have hfz16_2 := blk_frozen BK275.out 2; have hfz16_3 := blk_frozen BK275.out 3; have hfz16_4 := blk_frozen BK275.out 4) | ((with_reducible refine gate_callee (f := 7) rfl ?_); refine goesL_ (some 23) rfl rfl Try.func7 (by kernel_rfl) rfl #[.agg #[.int .i64 a0_0, .slice A0_1 l0_1.length c0_1, .slice A0_2 l0_2.length c0_2, .int .i64 a0_3, .slice A0_4 l0_4.length c0_4]] rfl ml_ ?_; (with_reducible refine (laws_toCelCell.calls k a0_0 _ _ l0_1 _ _ l0_2 a0_3 _ _ l0_4 t277 t278 t281 t284 t285 _ ?side1 ?side2 ?side3 ?side4 ?side5 ?side6 A8.out).mono ?_); (case side1 => repeat (first | exact (Kd.C_below HR0_1.out HB.out) | (with_reducible refine Kd.C_alloc ?_ _) | (with_reducible refine Kd.C_drewN ?_ _) | (with_reducible refine Kd.C_drew ?_))); (case side2 => exact HC0_1.out); (case side3 => repeat (first | exact (Kd.C_below HR0_2.out HB.out) | (with_reducible refine Kd.C_alloc ?_ _) | (with_reducible refine Kd.C_drewN ?_ _) | (with_reducible refine Kd.C_drew ?_))); (case side4 => exact HC0_2.out); (case side5 => repeat (first | exact (Kd.C_below HR0_4.out HB.out) | (with_reducible refine Kd.C_alloc ?_ _) | (with_reducible refine Kd.C_drewN ?_ _) | (with_reducible refine Kd.C_drew ?_))); (case side6 => exact HC0_4.out); rintro e w17 ⟨v279, v282, v286, rfl, ho0, ho1, ho2, hb⟩; refine ⟨_, rfl, ?_⟩; have n0_ := Aside0.mk (Kd.R_lower ho0 (below_size hb_)); have n1_ := Aside0.mk (Kd.R_lower ho1 (below_size hb_)); have n2_ := Aside0.mk (Kd.R_lower ho2 (below_size hb_)); have n3_ := Aside0.mk (blk_below (g := gb275) (o := .cells #[.int .i64 a0_0, .slice A0_1 l0_1.length c0_1, .slice A0_2 l0_2.length c0_2, .int .i64 a0_3, .slice A0_4 l0_4.length c0_4] 27 (0, 0)) bk_ hb); have n4_ := Aside0.mk (below_step hb_ hb); clear BK275; clear HB; have HO280 := n0_; have HO283 := n1_; have HO287 := n2_; have BK275 := n3_; have HB := n4_; clear n0_ n1_ n2_ n3_ n4_; (try clear hb); (try clear hb2); (try clear hk); (try clear hi); (try clear ho0); (try clear ho1); (try clear ho2); obtain ⟨Ao18, co18, eo18⟩ := Kd.R_slice HO280.out; subst eo18; obtain ⟨Ao19, co19, eo19⟩ := Kd.R_slice HO283.out; subst eo19; obtain ⟨Ao20, co20, eo20⟩ := Kd.R_slice HO287.out; subst eo20) | ((with_reducible refine gate_callee (f := 6) rfl ?_); refine goesL_ (some 25) rfl rfl Try.func6 (by kernel_rfl) rfl #[.agg #[.int .i64 t277, .slice Ao18 t278.length co18, .slice Ao19 t281.length co19, .int .i64 t284, .slice Ao20 t285.length co20], .int .i64 a1] rfl ml_ ?_; (with_reducible refine (spec_CelInput.calls k t277 _ _ t278 _ _ t281 t284 _ _ t285 a1 t288 t289 t292 t295 t296 t299 _ ?side1 ?side2 ?side3 ?side4 ?side5 ?side6 A9.out).mono ?_); (case side1 => repeat (first | exact (Kd.R_reads' HO280.out).2.2 | (with_reducible refine Kd.C_alloc ?_ _) | (with_reducible refine Kd.C_drewN ?_ _) | (with_reducible refine Kd.C_drew ?_))); (case side2 => exact (Kd.R_reads' HO280.out).2.1); (case side3 => repeat (first | exact (Kd.R_reads' HO283.out).2.2 | (with_reducible refine Kd.C_alloc ?_ _) | (with_reducible refine Kd.C_drewN ?_ _) | (with_reducible refine Kd.C_drew ?_))); (case side4 => exact (Kd.R_reads' HO283.out).2.1); (case side5 => repeat (first | exact (Kd.R_reads' HO287.out).2.2 | (with_reducible refine Kd.C_alloc ?_ _) | (with_reducible refine Kd.C_drewN ?_ _) | (with_reducible refine Kd.C_drew ?_))); (case side6 => exact (Kd.R_reads' HO287.out).2.1); rintro e w21 ⟨v290, v293, v297, rfl, ho0, ho1, ho2, hb⟩; refine ⟨_, rfl, ?_⟩; have n0_ := Aside0.mk (Kd.R_mono (Kd.R_told (Kd.R_told (Kd.R_old (by (with_reducible repeat (first | apply Kd.R_alloc | apply Kd.R_drewN | apply Kd.R_drew)); exact HO280.out) hb) (Kd.R_base ho0)) (Kd.R_base ho1)) (fun _ h_ => h_.1)); have n1_ := Aside0.mk (Kd.R_mono (Kd.R_told (Kd.R_told (Kd.R_old (by (with_reducible repeat (first | apply Kd.R_alloc | apply Kd.R_drewN | apply Kd.R_drew)); exact HO283.out) hb) (Kd.R_base ho0)) (Kd.R_base ho1)) (fun _ h_ => h_.1)); have n2_ := Aside0.mk (Kd.R_elder' (by (with_reducible repeat (first | apply Kd.R_alloc | apply Kd.R_drewN | apply Kd.R_drew)); exact HO287.out) (Kd.R_base ho2) hb); have n3_ := Aside0.mk (Kd.R_lower (Kd.R_new' (Kd.R_new' ho0 (Kd.R_lt (by (with_reducible repeat (first | apply Kd.R_alloc | apply Kd.R_drewN | apply Kd.R_drew)); exact HO280.out))) (Kd.R_lt (by (with_reducible repeat (first | apply Kd.R_alloc | apply Kd.R_drewN | apply Kd.R_drew)); exact HO283.out))) (below_size hb_)); have n4_ := Aside0.mk (Kd.R_lower (Kd.R_new' (Kd.R_new' ho1 (Kd.R_lt (by (with_reducible repeat (first | apply Kd.R_alloc | apply Kd.R_drewN | apply Kd.R_drew)); exact HO280.out))) (Kd.R_lt (by (with_reducible repeat (first | apply Kd.R_alloc | apply Kd.R_drewN | apply Kd.R_drew)); exact HO283.out))) (below_size hb_)); have n5_ := Aside0.mk (Kd.R_lower (Kd.R_new' ho2 (Kd.R_lt (by (with_reducible repeat (first | apply Kd.R_alloc | apply Kd.R_drewN | apply Kd.R_drew)); exact HO287.out))) (below_size hb_)); have n6_ := Aside0.mk (blk_below (g := gb275) (o := .cells #[.int .i64 a0_0, .slice A0_1 l0_1.length c0_1, .slice A0_2 l0_2.length c0_2, .int .i64 a0_3, .slice A0_4 l0_4.length c0_4] 27 (0, 0)) bk_ hb); have n7_ := Aside0.mk (below_step hb_ hb); clear HO280; clear HO283; clear HO287; clear BK275; clear HB; have HO280 := n0_; have HO283 := n1_; have HO287 := n2_; have HO291 := n3_; have HO294 := n4_; have HO298 := n5_; have BK275 := n6_; have HB := n7_; clear n0_ n1_ n2_ n3_ n4_ n5_ n6_ n7_; (try clear hb); (try clear hb2); (try clear hk); (try clear hi); (try clear ho0); (try clear ho1); (try clear ho2)) | ((with_reducible refine gate_dst (N := 6) rfl ?_); refine bx_ (N := 6) (cs := #[.int .i64 0, .slice none 0 0, .slice none 0 0, .int .i64 0, .slice none 0 0]) (t := 31) ?_; intro gb300 hg w22 hbox hb; have n0_ := Aside0.mk (Kd.R_below (by (with_reducible repeat (first | apply Kd.R_alloc | apply Kd.R_drewN | apply Kd.R_drew)); exact HO280.out) hb); have n1_ := Aside0.mk (Kd.R_below (by (with_reducible repeat (first | apply Kd.R_alloc | apply Kd.R_drewN | apply Kd.R_drew)); exact HO283.out) hb); have n2_ := Aside0.mk (Kd.R_below (by (with_reducible repeat (first | apply Kd.R_alloc | apply Kd.R_drewN | apply Kd.R_drew)); exact HO287.out) hb); have n3_ := Aside0.mk (Kd.R_below (by (with_reducible repeat (first | apply Kd.R_alloc | apply Kd.R_drewN | apply Kd.R_drew)); exact HO291.out) hb); have n4_ := Aside0.mk (Kd.R_below (by (with_reducible repeat (first | apply Kd.R_alloc | apply Kd.R_drewN | apply Kd.R_drew)); exact HO294.out) hb); have n5_ := Aside0.mk (Kd.R_below (by (with_reducible repeat (first | apply Kd.R_alloc | apply Kd.R_drewN | apply Kd.R_drew)); exact HO298.out) hb); have n6_ := Aside0.mk (blk_below (g := gb275) (o := .cells #[.int .i64 a0_0, .slice A0_1 l0_1.length c0_1, .slice A0_2 l0_2.length c0_2, .int .i64 a0_3, .slice A0_4 l0_4.length c0_4] 27 (0, 0)) bk_ hb); have n7_ := Aside0.mk (below_step hb_ hb); have n8_ := Aside0.mk (hbox); have n9_ := Aside0.mk ((hg_ : w.heap.size ≤ gb300)); have n10_ := Aside0.mk ((hg_ : w.heap.size ≤ gb300)); have n11_ := Aside0.mk ((nl_ : gb275 ≠ gb300)); have n12_ := Aside0.mk ((ng_ : gb300 ≠ gb275)); clear HO280; clear HO283; clear HO287; clear HO291; clear HO294; clear HO298; clear BK275; clear HB; have HO280 := n0_; have HO283 := n1_; have HO287 := n2_; have HO291 := n3_; have HO294 := n4_; have HO298 := n5_; have BK275 := n6_; have HB := n7_; have BK300 := n8_; have GW300 := n9_; have GE300 := n10_; have NB275_300 := n11_; have NB300_275 := n12_; clear n0_ n1_ n2_ n3_ n4_ n5_ n6_ n7_ n8_ n9_ n10_ n11_ n12_; clear hb hbox hg; have hnb23 := NB300_275.out; have hnc23 := NB275_300.out; have hcz24_0 : w22.cell? ⟨gb300, 0, none⟩ = some (.int .i64 0) := (blk_cell BK300.out 0).trans rfl; have hcz24_1 : w22.cell? ⟨gb300, 1, none⟩ = some (.slice none 0 0) := (blk_cell BK300.out 1).trans rfl; have hcz24_2 : w22.cell? ⟨gb300, 2, none⟩ = some (.slice none 0 0) := (blk_cell BK300.out 2).trans rfl; have hcz24_3 : w22.cell? ⟨gb300, 3, none⟩ = some (.int .i64 0) := (blk_cell BK300.out 3).trans rfl; have hcz24_4 : w22.cell? ⟨gb300, 4, none⟩ = some (.slice none 0 0) := (blk_cell BK300.out 4).trans rfl; have hfz24_0 := blk_frozen BK300.out 0; have hfz24_1 := blk_frozen BK300.out 1; have hfz24_2 := blk_frozen BK300.out 2; have hfz24_3 := blk_frozen BK300.out 3; have hfz24_4 := blk_frozen BK300.out 4; obtain ⟨Ao25, co25, eo25⟩ := Kd.R_slice HO291.out; subst eo25; obtain ⟨Ao26, co26, eo26⟩ := Kd.R_slice HO294.out; subst eo26; obtain ⟨Ao27, co27, eo27⟩ := Kd.R_slice HO298.out; subst eo27; have hcz28_0 : w22.cell? ⟨gb275, 0, none⟩ = some (.int .i64 a0_0) := (blk_cell BK275.out 0).trans rfl; have hcz28_1 : w22.cell? ⟨gb275, 1, none⟩ = some (.slice A0_1 l0_1.length c0_1) := (blk_cell BK275.out 1).trans rfl; have hcz28_2 : w22.cell? ⟨gb275, 2, none⟩ = some (.slice A0_2 l0_2.length c0_2) := (blk_cell BK275.out 2).trans rfl; have hcz28_3 : w22.cell? ⟨gb275, 3, none⟩ = some (.int .i64 a0_3) := (blk_cell BK275.out 3).trans rfl; have hcz28_4 : w22.cell? ⟨gb275, 4, none⟩ = some (.slice A0_4 l0_4.length c0_4) := (blk_cell BK275.out 4).trans rfl; have hfz28_0 := blk_frozen BK275.out 0; have hfz28_1 := blk_frozen BK275.out 1; have hfz28_2 := blk_frozen BK275.out 2; have hfz28_3 := blk_frozen BK275.out 3; have hfz28_4 := blk_frozen BK275.out 4) | ((with_reducible refine gate_callee (f := 7) rfl ?_); refine goesL_ (some 29) rfl rfl Try.func7 (by kernel_rfl) rfl #[.agg #[.int .i64 a0_0, .slice A0_1 l0_1.length c0_1, .slice A0_2 l0_2.length c0_2, .int .i64 a0_3, .slice A0_4 l0_4.length c0_4]] rfl ml_ ?_; (with_reducible refine (laws_toCelCell.calls k a0_0 _ _ l0_1 _ _ l0_2 a0_3 _ _ l0_4 t301 t302 t305 t308 t309 _ ?side1 ?side2 ?side3 ?side4 ?side5 ?side6 A10.out).mono ?_); (case side1 => exact Kd.C_below HR0_1.out hb_); (case side2 => exact HC0_1.out); (case side3 => exact Kd.C_below HR0_2.out hb_); (case side4 => exact HC0_2.out); (case side5 => exact Kd.C_below HR0_4.out hb_); (case side6 => exact HC0_4.out); rintro e w29 ⟨v303, v306, v310, rfl, ho0, ho1, ho2, hb⟩; refine ⟨_, rfl, ?_⟩; have n0_ := Aside0.mk (Kd.R_mono (Kd.R_told (Kd.R_told (Kd.R_old (by (with_reducible repeat (first | apply Kd.R_alloc | apply Kd.R_drewN | apply Kd.R_drew)); exact (Kd.R_mono (Kd.R_far (p := ⟨gb300, 4, none⟩) (Kd.R_far (p := ⟨gb300, 3, none⟩) (Kd.R_far (p := ⟨gb300, 2, none⟩) (Kd.R_far (p := ⟨gb300, 1, none⟩) (Kd.R_far (p := ⟨gb300, 0, none⟩) (Kd.R_types HO280.out BK300.out (by decide)) (fun _ hk => hk.2) (.int .i64 t288)) (fun _ hk => hk.2) (.slice Ao25 t289.length co25)) (fun _ hk => hk.2) (.slice Ao26 t292.length co26)) (fun _ hk => hk.2) (.int .i64 t295)) (fun _ hk => hk.2) (.slice Ao27 t296.length co27)) (fun _ h_ => h_.1))) hb) (Kd.R_base ho0)) (Kd.R_base ho1)) (fun _ h_ => h_.1)); have n1_ := Aside0.mk (Kd.R_mono (Kd.R_told (Kd.R_told (Kd.R_old (by (with_reducible repeat (first | apply Kd.R_alloc | apply Kd.R_drewN | apply Kd.R_drew)); exact (Kd.R_mono (Kd.R_far (p := ⟨gb300, 4, none⟩) (Kd.R_far (p := ⟨gb300, 3, none⟩) (Kd.R_far (p := ⟨gb300, 2, none⟩) (Kd.R_far (p := ⟨gb300, 1, none⟩) (Kd.R_far (p := ⟨gb300, 0, none⟩) (Kd.R_types HO283.out BK300.out (by decide)) (fun _ hk => hk.2) (.int .i64 t288)) (fun _ hk => hk.2) (.slice Ao25 t289.length co25)) (fun _ hk => hk.2) (.slice Ao26 t292.length co26)) (fun _ hk => hk.2) (.int .i64 t295)) (fun _ hk => hk.2) (.slice Ao27 t296.length co27)) (fun _ h_ => h_.1))) hb) (Kd.R_base ho0)) (Kd.R_base ho1)) (fun _ h_ => h_.1)); have n2_ := Aside0.mk (Kd.R_elder' (by (with_reducible repeat (first | apply Kd.R_alloc | apply Kd.R_drewN | apply Kd.R_drew)); exact (Kd.R_mono (Kd.R_far (p := ⟨gb300, 4, none⟩) (Kd.R_far (p := ⟨gb300, 3, none⟩) (Kd.R_far (p := ⟨gb300, 2, none⟩) (Kd.R_far (p := ⟨gb300, 1, none⟩) (Kd.R_far (p := ⟨gb300, 0, none⟩) (Kd.R_types HO287.out BK300.out (by decide)) (fun _ hk => hk.2) (.int .i64 t288)) (fun _ hk => hk.2) (.slice Ao25 t289.length co25)) (fun _ hk => hk.2) (.slice Ao26 t292.length co26)) (fun _ hk => hk.2) (.int .i64 t295)) (fun _ hk => hk.2) (.slice Ao27 t296.length co27)) (fun _ h_ => h_.1))) (Kd.R_base ho2) hb); have n3_ := Aside0.mk (Kd.R_mono (Kd.R_told (Kd.R_told (Kd.R_old (by (with_reducible repeat (first | apply Kd.R_alloc | apply Kd.R_drewN | apply Kd.R_drew)); exact (Kd.R_mono (Kd.R_far (p := ⟨gb300, 4, none⟩) (Kd.R_far (p := ⟨gb300, 3, none⟩) (Kd.R_far (p := ⟨gb300, 2, none⟩) (Kd.R_far (p := ⟨gb300, 1, none⟩) (Kd.R_far (p := ⟨gb300, 0, none⟩) (Kd.R_types HO291.out BK300.out (by decide)) (fun _ hk => hk.2) (.int .i64 t288)) (fun _ hk => hk.2) (.slice Ao25 t289.length co25)) (fun _ hk => hk.2) (.slice Ao26 t292.length co26)) (fun _ hk => hk.2) (.int .i64 t295)) (fun _ hk => hk.2) (.slice Ao27 t296.length co27)) (fun _ h_ => h_.1))) hb) (Kd.R_base ho0)) (Kd.R_base ho1)) (fun _ h_ => h_.1)); have n4_ := Aside0.mk (Kd.R_mono (Kd.R_told (Kd.R_told (Kd.R_old (by (with_reducible repeat (first | apply Kd.R_alloc | apply Kd.R_drewN | apply Kd.R_drew)); exact (Kd.R_mono (Kd.R_far (p := ⟨gb300, 4, none⟩) (Kd.R_far (p := ⟨gb300, 3, none⟩) (Kd.R_far (p := ⟨gb300, 2, none⟩) (Kd.R_far (p := ⟨gb300, 1, none⟩) (Kd.R_far (p := ⟨gb300, 0, none⟩) (Kd.R_types HO294.out BK300.out (by decide)) (fun _ hk => hk.2) (.int .i64 t288)) (fun _ hk => hk.2) (.slice Ao25 t289.length co25)) (fun _ hk => hk.2) (.slice Ao26 t292.length co26)) (fun _ hk => hk.2) (.int .i64 t295)) (fun _ hk => hk.2) (.slice Ao27 t296.length co27)) (fun _ h_ => h_.1))) hb) (Kd.R_base ho0)) (Kd.R_base ho1)) (fun _ h_ => h_.1)); have n5_ := Aside0.mk (Kd.R_elder' (by (with_reducible repeat (first | apply Kd.R_alloc | apply Kd.R_drewN | apply Kd.R_drew)); exact (Kd.R_mono (Kd.R_far (p := ⟨gb300, 4, none⟩) (Kd.R_far (p := ⟨gb300, 3, none⟩) (Kd.R_far (p := ⟨gb300, 2, none⟩) (Kd.R_far (p := ⟨gb300, 1, none⟩) (Kd.R_far (p := ⟨gb300, 0, none⟩) (Kd.R_types HO298.out BK300.out (by decide)) (fun _ hk => hk.2) (.int .i64 t288)) (fun _ hk => hk.2) (.slice Ao25 t289.length co25)) (fun _ hk => hk.2) (.slice Ao26 t292.length co26)) (fun _ hk => hk.2) (.int .i64 t295)) (fun _ hk => hk.2) (.slice Ao27 t296.length co27)) (fun _ h_ => h_.1))) (Kd.R_base ho2) hb); have n6_ := Aside0.mk (Kd.R_lower (Kd.R_new' (Kd.R_new' (Kd.R_new' (Kd.R_new' ho0 (Kd.R_lt (by (with_reducible repeat (first | apply Kd.R_alloc | apply Kd.R_drewN | apply Kd.R_drew)); exact (Kd.R_mono (Kd.R_far (p := ⟨gb300, 4, none⟩) (Kd.R_far (p := ⟨gb300, 3, none⟩) (Kd.R_far (p := ⟨gb300, 2, none⟩) (Kd.R_far (p := ⟨gb300, 1, none⟩) (Kd.R_far (p := ⟨gb300, 0, none⟩) (Kd.R_types HO280.out BK300.out (by decide)) (fun _ hk => hk.2) (.int .i64 t288)) (fun _ hk => hk.2) (.slice Ao25 t289.length co25)) (fun _ hk => hk.2) (.slice Ao26 t292.length co26)) (fun _ hk => hk.2) (.int .i64 t295)) (fun _ hk => hk.2) (.slice Ao27 t296.length co27)) (fun _ h_ => h_.1))))) (Kd.R_lt (by (with_reducible repeat (first | apply Kd.R_alloc | apply Kd.R_drewN | apply Kd.R_drew)); exact (Kd.R_mono (Kd.R_far (p := ⟨gb300, 4, none⟩) (Kd.R_far (p := ⟨gb300, 3, none⟩) (Kd.R_far (p := ⟨gb300, 2, none⟩) (Kd.R_far (p := ⟨gb300, 1, none⟩) (Kd.R_far (p := ⟨gb300, 0, none⟩) (Kd.R_types HO283.out BK300.out (by decide)) (fun _ hk => hk.2) (.int .i64 t288)) (fun _ hk => hk.2) (.slice Ao25 t289.length co25)) (fun _ hk => hk.2) (.slice Ao26 t292.length co26)) (fun _ hk => hk.2) (.int .i64 t295)) (fun _ hk => hk.2) (.slice Ao27 t296.length co27)) (fun _ h_ => h_.1))))) (Kd.R_lt (by (with_reducible repeat (first | apply Kd.R_alloc | apply Kd.R_drewN | apply Kd.R_drew)); exact (Kd.R_mono (Kd.R_far (p := ⟨gb300, 4, none⟩) (Kd.R_far (p := ⟨gb300, 3, none⟩) (Kd.R_far (p := ⟨gb300, 2, none⟩) (Kd.R_far (p := ⟨gb300, 1, none⟩) (Kd.R_far (p := ⟨gb300, 0, none⟩) (Kd.R_types HO291.out BK300.out (by decide)) (fun _ hk => hk.2) (.int .i64 t288)) (fun _ hk => hk.2) (.slice Ao25 t289.length co25)) (fun _ hk => hk.2) (.slice Ao26 t292.length co26)) (fun _ hk => hk.2) (.int .i64 t295)) (fun _ hk => hk.2) (.slice Ao27 t296.length co27)) (fun _ h_ => h_.1))))) (Kd.R_lt (by (with_reducible repeat (first | apply Kd.R_alloc | apply Kd.R_drewN | apply Kd.R_drew)); exact (Kd.R_mono (Kd.R_far (p := ⟨gb300, 4, none⟩) (Kd.R_far (p := ⟨gb300, 3, none⟩) (Kd.R_far (p := ⟨gb300, 2, none⟩) (Kd.R_far (p := ⟨gb300, 1, none⟩) (Kd.R_far (p := ⟨gb300, 0, none⟩) (Kd.R_types HO294.out BK300.out (by decide)) (fun _ hk => hk.2) (.int .i64 t288)) (fun _ hk => hk.2) (.slice Ao25 t289.length co25)) (fun _ hk => hk.2) (.slice Ao26 t292.length co26)) (fun _ hk => hk.2) (.int .i64 t295)) (fun _ hk => hk.2) (.slice Ao27 t296.length co27)) (fun _ h_ => h_.1))))) (below_size hb_)); have n7_ := Aside0.mk (Kd.R_lower (Kd.R_new' (Kd.R_new' (Kd.R_new' (Kd.R_new' ho1 (Kd.R_lt (by (with_reducible repeat (first | apply Kd.R_alloc | apply Kd.R_drewN | apply Kd.R_drew)); exact (Kd.R_mono (Kd.R_far (p := ⟨gb300, 4, none⟩) (Kd.R_far (p := ⟨gb300, 3, none⟩) (Kd.R_far (p := ⟨gb300, 2, none⟩) (Kd.R_far (p := ⟨gb300, 1, none⟩) (Kd.R_far (p := ⟨gb300, 0, none⟩) (Kd.R_types HO280.out BK300.out (by decide)) (fun _ hk => hk.2) (.int .i64 t288)) (fun _ hk => hk.2) (.slice Ao25 t289.length co25)) (fun _ hk => hk.2) (.slice Ao26 t292.length co26)) (fun _ hk => hk.2) (.int .i64 t295)) (fun _ hk => hk.2) (.slice Ao27 t296.length co27)) (fun _ h_ => h_.1))))) (Kd.R_lt (by (with_reducible repeat (first | apply Kd.R_alloc | apply Kd.R_drewN | apply Kd.R_drew)); exact (Kd.R_mono (Kd.R_far (p := ⟨gb300, 4, none⟩) (Kd.R_far (p := ⟨gb300, 3, none⟩) (Kd.R_far (p := ⟨gb300, 2, none⟩) (Kd.R_far (p := ⟨gb300, 1, none⟩) (Kd.R_far (p := ⟨gb300, 0, none⟩) (Kd.R_types HO283.out BK300.out (by decide)) (fun _ hk => hk.2) (.int .i64 t288)) (fun _ hk => hk.2) (.slice Ao25 t289.length co25)) (fun _ hk => hk.2) (.slice Ao26 t292.length co26)) (fun _ hk => hk.2) (.int .i64 t295)) (fun _ hk => hk.2) (.slice Ao27 t296.length co27)) (fun _ h_ => h_.1))))) (Kd.R_lt (by (with_reducible repeat (first | apply Kd.R_alloc | apply Kd.R_drewN | apply Kd.R_drew)); exact (Kd.R_mono (Kd.R_far (p := ⟨gb300, 4, none⟩) (Kd.R_far (p := ⟨gb300, 3, none⟩) (Kd.R_far (p := ⟨gb300, 2, none⟩) (Kd.R_far (p := ⟨gb300, 1, none⟩) (Kd.R_far (p := ⟨gb300, 0, none⟩) (Kd.R_types HO291.out BK300.out (by decide)) (fun _ hk => hk.2) (.int .i64 t288)) (fun _ hk => hk.2) (.slice Ao25 t289.length co25)) (fun _ hk => hk.2) (.slice Ao26 t292.length co26)) (fun _ hk => hk.2) (.int .i64 t295)) (fun _ hk => hk.2) (.slice Ao27 t296.length co27)) (fun _ h_ => h_.1))))) (Kd.R_lt (by (with_reducible repeat (first | apply Kd.R_alloc | apply Kd.R_drewN | apply Kd.R_drew)); exact (Kd.R_mono (Kd.R_far (p := ⟨gb300, 4, none⟩) (Kd.R_far (p := ⟨gb300, 3, none⟩) (Kd.R_far (p := ⟨gb300, 2, none⟩) (Kd.R_far (p := ⟨gb300, 1, none⟩) (Kd.R_far (p := ⟨gb300, 0, none⟩) (Kd.R_types HO294.out BK300.out (by decide)) (fun _ hk => hk.2) (.int .i64 t288)) (fun _ hk => hk.2) (.slice Ao25 t289.length co25)) (fun _ hk => hk.2) (.slice Ao26 t292.length co26)) (fun _ hk => hk.2) (.int .i64 t295)) (fun _ hk => hk.2) (.slice Ao27 t296.length co27)) (fun _ h_ => h_.1))))) (below_size hb_)); have n8_ := Aside0.mk (Kd.R_lower (Kd.R_new' (Kd.R_new' ho2 (Kd.R_lt (by (with_reducible repeat (first | apply Kd.R_alloc | apply Kd.R_drewN | apply Kd.R_drew)); exact (Kd.R_mono (Kd.R_far (p := ⟨gb300, 4, none⟩) (Kd.R_far (p := ⟨gb300, 3, none⟩) (Kd.R_far (p := ⟨gb300, 2, none⟩) (Kd.R_far (p := ⟨gb300, 1, none⟩) (Kd.R_far (p := ⟨gb300, 0, none⟩) (Kd.R_types HO287.out BK300.out (by decide)) (fun _ hk => hk.2) (.int .i64 t288)) (fun _ hk => hk.2) (.slice Ao25 t289.length co25)) (fun _ hk => hk.2) (.slice Ao26 t292.length co26)) (fun _ hk => hk.2) (.int .i64 t295)) (fun _ hk => hk.2) (.slice Ao27 t296.length co27)) (fun _ h_ => h_.1))))) (Kd.R_lt (by (with_reducible repeat (first | apply Kd.R_alloc | apply Kd.R_drewN | apply Kd.R_drew)); exact (Kd.R_mono (Kd.R_far (p := ⟨gb300, 4, none⟩) (Kd.R_far (p := ⟨gb300, 3, none⟩) (Kd.R_far (p := ⟨gb300, 2, none⟩) (Kd.R_far (p := ⟨gb300, 1, none⟩) (Kd.R_far (p := ⟨gb300, 0, none⟩) (Kd.R_types HO298.out BK300.out (by decide)) (fun _ hk => hk.2) (.int .i64 t288)) (fun _ hk => hk.2) (.slice Ao25 t289.length co25)) (fun _ hk => hk.2) (.slice Ao26 t292.length co26)) (fun _ hk => hk.2) (.int .i64 t295)) (fun _ hk => hk.2) (.slice Ao27 t296.length co27)) (fun _ h_ => h_.1))))) (below_size hb_)); have n9_ := Aside0.mk (blk_below (g := gb275) (o := .cells #[.int .i64 a0_0, .slice A0_1 l0_1.length c0_1, .slice A0_2 l0_2.length c0_2, .int .i64 a0_3, .slice A0_4 l0_4.length c0_4] 27 (0, 0)) (by (with_reducible repeat (first | refine blk_drewN ?_ _ | refine blk_drew ?_ | refine blk_alloc ?_ _)); refine blk_far ?_ NB275_300.out _; (with_reducible repeat (first | refine blk_drewN ?_ _ | refine blk_drew ?_ | refine blk_alloc ?_ _)); refine blk_far ?_ NB275_300.out _; (with_reducible repeat (first | refine blk_drewN ?_ _ | refine blk_drew ?_ | refine blk_alloc ?_ _)); refine blk_far ?_ NB275_300.out _; (with_reducible repeat (first | refine blk_drewN ?_ _ | refine blk_drew ?_ | refine blk_alloc ?_ _)); refine blk_far ?_ NB275_300.out _; (with_reducible repeat (first | refine blk_drewN ?_ _ | refine blk_drew ?_ | refine blk_alloc ?_ _)); refine blk_far ?_ NB275_300.out _; (with_reducible repeat (first | refine blk_drewN ?_ _ | refine blk_drew ?_ | refine blk_alloc ?_ _)); exact BK275.out) hb); have n10_ := Aside0.mk (blk_below (g := gb300) (o := .cells #[.int .i64 t288, .slice Ao25 t289.length co25, .slice Ao26 t292.length co26, .int .i64 t295, .slice Ao27 t296.length co27] 31 (0, 0)) (by (with_reducible repeat (first | refine blk_drewN ?_ _ | refine blk_drew ?_ | refine blk_alloc ?_ _)); refine blk_put (cs := #[.int .i64 t288, .slice Ao25 t289.length co25, .slice Ao26 t292.length co26, .int .i64 t295, .slice none 0 0]) ?_ 4 _ rfl; (with_reducible repeat (first | refine blk_drewN ?_ _ | refine blk_drew ?_ | refine blk_alloc ?_ _)); refine blk_put (cs := #[.int .i64 t288, .slice Ao25 t289.length co25, .slice Ao26 t292.length co26, .int .i64 0, .slice none 0 0]) ?_ 3 _ rfl; (with_reducible repeat (first | refine blk_drewN ?_ _ | refine blk_drew ?_ | refine blk_alloc ?_ _)); refine blk_put (cs := #[.int .i64 t288, .slice Ao25 t289.length co25, .slice none 0 0, .int .i64 0, .slice none 0 0]) ?_ 2 _ rfl; (with_reducible repeat (first | refine blk_drewN ?_ _ | refine blk_drew ?_ | refine blk_alloc ?_ _)); refine blk_put (cs := #[.int .i64 t288, .slice none 0 0, .slice none 0 0, .int .i64 0, .slice none 0 0]) ?_ 1 _ rfl; (with_reducible repeat (first | refine blk_drewN ?_ _ | refine blk_drew ?_ | refine blk_alloc ?_ _)); refine blk_put (cs := #[.int .i64 0, .slice none 0 0, .slice none 0 0, .int .i64 0, .slice none 0 0]) ?_ 0 _ rfl; (with_reducible repeat (first | refine blk_drewN ?_ _ | refine blk_drew ?_ | refine blk_alloc ?_ _)); exact BK300.out) hb); have n11_ := Aside0.mk (below_step hb_ hb); clear HO280; clear HO283; clear HO287; clear HO291; clear HO294; clear HO298; clear BK275; clear BK300; clear HB; have HO280 := n0_; have HO283 := n1_; have HO287 := n2_; have HO291 := n3_; have HO294 := n4_; have HO298 := n5_; have HO304 := n6_; have HO307 := n7_; have HO311 := n8_; have BK275 := n9_; have BK300 := n10_; have HB := n11_; clear n0_ n1_ n2_ n3_ n4_ n5_ n6_ n7_ n8_ n9_ n10_ n11_; (try clear hb); (try clear hb2); (try clear hk); (try clear hi); (try clear ho0); (try clear ho1); (try clear ho2)) | ((with_reducible refine gate_dst (N := 8) rfl ?_); refine bx_ (N := 8) (cs := #[.int .i64 0, .slice none 0 0, .slice none 0 0, .int .i64 0, .slice none 0 0]) (t := 31) ?_; intro gb312 hg w30 hbox hb; have n0_ := Aside0.mk (Kd.R_below (by (with_reducible repeat (first | apply Kd.R_alloc | apply Kd.R_drewN | apply Kd.R_drew)); exact HO280.out) hb); have n1_ := Aside0.mk (Kd.R_below (by (with_reducible repeat (first | apply Kd.R_alloc | apply Kd.R_drewN | apply Kd.R_drew)); exact HO283.out) hb); have n2_ := Aside0.mk (Kd.R_below (by (with_reducible repeat (first | apply Kd.R_alloc | apply Kd.R_drewN | apply Kd.R_drew)); exact HO287.out) hb); have n3_ := Aside0.mk (Kd.R_below (by (with_reducible repeat (first | apply Kd.R_alloc | apply Kd.R_drewN | apply Kd.R_drew)); exact HO291.out) hb); have n4_ := Aside0.mk (Kd.R_below (by (with_reducible repeat (first | apply Kd.R_alloc | apply Kd.R_drewN | apply Kd.R_drew)); exact HO294.out) hb); have n5_ := Aside0.mk (Kd.R_below (by (with_reducible repeat (first | apply Kd.R_alloc | apply Kd.R_drewN | apply Kd.R_drew)); exact HO298.out) hb); have n6_ := Aside0.mk (Kd.R_below (by (with_reducible repeat (first | apply Kd.R_alloc | apply Kd.R_drewN | apply Kd.R_drew)); exact HO304.out) hb); have n7_ := Aside0.mk (Kd.R_below (by (with_reducible repeat (first | apply Kd.R_alloc | apply Kd.R_drewN | apply Kd.R_drew)); exact HO307.out) hb); have n8_ := Aside0.mk (Kd.R_below (by (with_reducible repeat (first | apply Kd.R_alloc | apply Kd.R_drewN | apply Kd.R_drew)); exact HO311.out) hb); have n9_ := Aside0.mk (blk_below (g := gb275) (o := .cells #[.int .i64 a0_0, .slice A0_1 l0_1.length c0_1, .slice A0_2 l0_2.length c0_2, .int .i64 a0_3, .slice A0_4 l0_4.length c0_4] 27 (0, 0)) bk_ hb); have n10_ := Aside0.mk (blk_below (g := gb300) (o := .cells #[.int .i64 t288, .slice Ao25 t289.length co25, .slice Ao26 t292.length co26, .int .i64 t295, .slice Ao27 t296.length co27] 31 (0, 0)) bk_ hb); have n11_ := Aside0.mk (below_step hb_ hb); have n12_ := Aside0.mk (hbox); have n13_ := Aside0.mk ((hg_ : w.heap.size ≤ gb312)); have n14_ := Aside0.mk ((hg_ : w.heap.size ≤ gb312)); have n15_ := Aside0.mk ((nl_ : gb275 ≠ gb312)); have n16_ := Aside0.mk ((ng_ : gb312 ≠ gb275)); have n17_ := Aside0.mk ((nl_ : gb300 ≠ gb312)); have n18_ := Aside0.mk ((ng_ : gb312 ≠ gb300)); clear HO280; clear HO283; clear HO287; clear HO291; clear HO294; clear HO298; clear HO304; clear HO307; clear HO311; clear BK275; clear BK300; clear HB; have HO280 := n0_; have HO283 := n1_; have HO287 := n2_; have HO291 := n3_; have HO294 := n4_; have HO298 := n5_; have HO304 := n6_; have HO307 := n7_; have HO311 := n8_; have BK275 := n9_; have BK300 := n10_; have HB := n11_; have BK312 := n12_; have GW312 := n13_; have GE312 := n14_; have NB275_312 := n15_; have NB312_275 := n16_; have NB300_312 := n17_; have NB312_300 := n18_; clear n0_ n1_ n2_ n3_ n4_ n5_ n6_ n7_ n8_ n9_ n10_ n11_ n12_ n13_ n14_ n15_ n16_ n17_ n18_; clear hb hbox hg; have hnb31 := NB312_275.out; have hnc31 := NB275_312.out; have hnb32 := NB312_300.out; have hnc32 := NB300_312.out; have hcz33_0 : w30.cell? ⟨gb312, 0, none⟩ = some (.int .i64 0) := (blk_cell BK312.out 0).trans rfl; have hcz33_1 : w30.cell? ⟨gb312, 1, none⟩ = some (.slice none 0 0) := (blk_cell BK312.out 1).trans rfl; have hcz33_2 : w30.cell? ⟨gb312, 2, none⟩ = some (.slice none 0 0) := (blk_cell BK312.out 2).trans rfl; have hcz33_3 : w30.cell? ⟨gb312, 3, none⟩ = some (.int .i64 0) := (blk_cell BK312.out 3).trans rfl; have hcz33_4 : w30.cell? ⟨gb312, 4, none⟩ = some (.slice none 0 0) := (blk_cell BK312.out 4).trans rfl; have hfz33_0 := blk_frozen BK312.out 0; have hfz33_1 := blk_frozen BK312.out 1; have hfz33_2 := blk_frozen BK312.out 2; have hfz33_3 := blk_frozen BK312.out 3; have hfz33_4 := blk_frozen BK312.out 4; obtain ⟨Ao34, co34, eo34⟩ := Kd.R_slice HO304.out; subst eo34; obtain ⟨Ao35, co35, eo35⟩ := Kd.R_slice HO307.out; subst eo35; obtain ⟨Ao36, co36, eo36⟩ := Kd.R_slice HO311.out; subst eo36) | ((with_reducible refine gate_callee (f := 8) rfl ?_); refine goesL_ (some 33) rfl rfl Try.func8 (by kernel_rfl) rfl #[.agg #[.int .i64 t301, .slice Ao34 t302.length co34, .slice Ao35 t305.length co35, .int .i64 t308, .slice Ao36 t309.length co36], .int .i64 a1] rfl ml_ ?_; (with_reducible refine (impl_CelInput.calls k t301 _ _ t302 _ _ t305 t308 _ _ t309 a1 t313 t314 t317 t320 t321 t324 _ ?side1 ?side2 ?side3 ?side4 ?side5 ?side6 A11.out).mono ?_); (case side1 => refine (Kd.R_reads' (e := 3) (base := w.heap.size) (ok := fun k_ => ((((some k_ ≠ (.slice Ao35 t305.length co35 : Value).ownBlock ∧ some k_ ≠ (.slice Ao18 t278.length co18 : Value).ownBlock) ∧ some k_ ≠ (.slice Ao19 t281.length co19 : Value).ownBlock) ∧ some k_ ≠ (.slice Ao25 t289.length co25 : Value).ownBlock) ∧ some k_ ≠ (.slice Ao26 t292.length co26 : Value).ownBlock)) (n := t302.length) (c := co34) ?_).2.2; exact (by (with_reducible repeat (first | apply Kd.R_alloc | apply Kd.R_drewN | apply Kd.R_drew)); exact (Kd.R_mono (Kd.R_far (p := ⟨gb312, 4, none⟩) (Kd.R_far (p := ⟨gb312, 3, none⟩) (Kd.R_far (p := ⟨gb312, 2, none⟩) (Kd.R_far (p := ⟨gb312, 1, none⟩) (Kd.R_far (p := ⟨gb312, 0, none⟩) (Kd.R_types HO304.out BK312.out (by decide)) (fun _ hk => hk.2) (.int .i64 t301)) (fun _ hk => hk.2) (.slice Ao34 t302.length co34)) (fun _ hk => hk.2) (.slice Ao35 t305.length co35)) (fun _ hk => hk.2) (.int .i64 t308)) (fun _ hk => hk.2) (.slice Ao36 t309.length co36)) (fun _ h_ => h_.1)))); (case side2 => exact (Kd.R_reads' HO304.out).2.1); (case side3 => refine (Kd.R_reads' (e := 3) (base := w.heap.size) (ok := fun k_ => ((((some k_ ≠ (.slice Ao34 t302.length co34 : Value).ownBlock ∧ some k_ ≠ (.slice Ao18 t278.length co18 : Value).ownBlock) ∧ some k_ ≠ (.slice Ao19 t281.length co19 : Value).ownBlock) ∧ some k_ ≠ (.slice Ao25 t289.length co25 : Value).ownBlock) ∧ some k_ ≠ (.slice Ao26 t292.length co26 : Value).ownBlock)) (n := t305.length) (c := co35) ?_).2.2; exact (by (with_reducible repeat (first | apply Kd.R_alloc | apply Kd.R_drewN | apply Kd.R_drew)); exact (Kd.R_mono (Kd.R_far (p := ⟨gb312, 4, none⟩) (Kd.R_far (p := ⟨gb312, 3, none⟩) (Kd.R_far (p := ⟨gb312, 2, none⟩) (Kd.R_far (p := ⟨gb312, 1, none⟩) (Kd.R_far (p := ⟨gb312, 0, none⟩) (Kd.R_types HO307.out BK312.out (by decide)) (fun _ hk => hk.2) (.int .i64 t301)) (fun _ hk => hk.2) (.slice Ao34 t302.length co34)) (fun _ hk => hk.2) (.slice Ao35 t305.length co35)) (fun _ hk => hk.2) (.int .i64 t308)) (fun _ hk => hk.2) (.slice Ao36 t309.length co36)) (fun _ h_ => h_.1)))); (case side4 => exact (Kd.R_reads' HO307.out).2.1); (case side5 => refine (Kd.R_reads' (e := 5) (base := w.heap.size) (ok := fun k_ => ((True ∧ some k_ ≠ (.slice Ao20 t285.length co20 : Value).ownBlock) ∧ some k_ ≠ (.slice Ao27 t296.length co27 : Value).ownBlock)) (n := t309.length) (c := co36) ?_).2.2; exact (by (with_reducible repeat (first | apply Kd.R_alloc | apply Kd.R_drewN | apply Kd.R_drew)); exact (Kd.R_mono (Kd.R_far (p := ⟨gb312, 4, none⟩) (Kd.R_far (p := ⟨gb312, 3, none⟩) (Kd.R_far (p := ⟨gb312, 2, none⟩) (Kd.R_far (p := ⟨gb312, 1, none⟩) (Kd.R_far (p := ⟨gb312, 0, none⟩) (Kd.R_types HO311.out BK312.out (by decide)) (fun _ hk => hk.2) (.int .i64 t301)) (fun _ hk => hk.2) (.slice Ao34 t302.length co34)) (fun _ hk => hk.2) (.slice Ao35 t305.length co35)) (fun _ hk => hk.2) (.int .i64 t308)) (fun _ hk => hk.2) (.slice Ao36 t309.length co36)) (fun _ h_ => h_.1)))); (case side6 => exact (Kd.R_reads' HO311.out).2.1); rintro e w37 ⟨v315, v318, v322, rfl, ho0, ho1, ho2, hb⟩; refine ⟨_, rfl, ?_⟩; have n0_ := Aside0.mk (Kd.R_mono (Kd.R_told (Kd.R_told (Kd.R_old (by (with_reducible repeat (first | apply Kd.R_alloc | apply Kd.R_drewN | apply Kd.R_drew)); exact (Kd.R_mono (Kd.R_far (p := ⟨gb312, 4, none⟩) (Kd.R_far (p := ⟨gb312, 3, none⟩) (Kd.R_far (p := ⟨gb312, 2, none⟩) (Kd.R_far (p := ⟨gb312, 1, none⟩) (Kd.R_far (p := ⟨gb312, 0, none⟩) (Kd.R_types HO280.out BK312.out (by decide)) (fun _ hk => hk.2) (.int .i64 t301)) (fun _ hk => hk.2) (.slice Ao34 t302.length co34)) (fun _ hk => hk.2) (.slice Ao35 t305.length co35)) (fun _ hk => hk.2) (.int .i64 t308)) (fun _ hk => hk.2) (.slice Ao36 t309.length co36)) (fun _ h_ => h_.1))) hb) (Kd.R_base ho0)) (Kd.R_base ho1)) (fun _ h_ => h_.1)); have n1_ := Aside0.mk (Kd.R_mono (Kd.R_told (Kd.R_told (Kd.R_old (by (with_reducible repeat (first | apply Kd.R_alloc | apply Kd.R_drewN | apply Kd.R_drew)); exact (Kd.R_mono (Kd.R_far (p := ⟨gb312, 4, none⟩) (Kd.R_far (p := ⟨gb312, 3, none⟩) (Kd.R_far (p := ⟨gb312, 2, none⟩) (Kd.R_far (p := ⟨gb312, 1, none⟩) (Kd.R_far (p := ⟨gb312, 0, none⟩) (Kd.R_types HO283.out BK312.out (by decide)) (fun _ hk => hk.2) (.int .i64 t301)) (fun _ hk => hk.2) (.slice Ao34 t302.length co34)) (fun _ hk => hk.2) (.slice Ao35 t305.length co35)) (fun _ hk => hk.2) (.int .i64 t308)) (fun _ hk => hk.2) (.slice Ao36 t309.length co36)) (fun _ h_ => h_.1))) hb) (Kd.R_base ho0)) (Kd.R_base ho1)) (fun _ h_ => h_.1)); have n2_ := Aside0.mk (Kd.R_elder' (by (with_reducible repeat (first | apply Kd.R_alloc | apply Kd.R_drewN | apply Kd.R_drew)); exact (Kd.R_mono (Kd.R_far (p := ⟨gb312, 4, none⟩) (Kd.R_far (p := ⟨gb312, 3, none⟩) (Kd.R_far (p := ⟨gb312, 2, none⟩) (Kd.R_far (p := ⟨gb312, 1, none⟩) (Kd.R_far (p := ⟨gb312, 0, none⟩) (Kd.R_types HO287.out BK312.out (by decide)) (fun _ hk => hk.2) (.int .i64 t301)) (fun _ hk => hk.2) (.slice Ao34 t302.length co34)) (fun _ hk => hk.2) (.slice Ao35 t305.length co35)) (fun _ hk => hk.2) (.int .i64 t308)) (fun _ hk => hk.2) (.slice Ao36 t309.length co36)) (fun _ h_ => h_.1))) (Kd.R_base ho2) hb); have n3_ := Aside0.mk (Kd.R_mono (Kd.R_told (Kd.R_told (Kd.R_old (by (with_reducible repeat (first | apply Kd.R_alloc | apply Kd.R_drewN | apply Kd.R_drew)); exact (Kd.R_mono (Kd.R_far (p := ⟨gb312, 4, none⟩) (Kd.R_far (p := ⟨gb312, 3, none⟩) (Kd.R_far (p := ⟨gb312, 2, none⟩) (Kd.R_far (p := ⟨gb312, 1, none⟩) (Kd.R_far (p := ⟨gb312, 0, none⟩) (Kd.R_types HO291.out BK312.out (by decide)) (fun _ hk => hk.2) (.int .i64 t301)) (fun _ hk => hk.2) (.slice Ao34 t302.length co34)) (fun _ hk => hk.2) (.slice Ao35 t305.length co35)) (fun _ hk => hk.2) (.int .i64 t308)) (fun _ hk => hk.2) (.slice Ao36 t309.length co36)) (fun _ h_ => h_.1))) hb) (Kd.R_base ho0)) (Kd.R_base ho1)) (fun _ h_ => h_.1)); have n4_ := Aside0.mk (Kd.R_mono (Kd.R_told (Kd.R_told (Kd.R_old (by (with_reducible repeat (first | apply Kd.R_alloc | apply Kd.R_drewN | apply Kd.R_drew)); exact (Kd.R_mono (Kd.R_far (p := ⟨gb312, 4, none⟩) (Kd.R_far (p := ⟨gb312, 3, none⟩) (Kd.R_far (p := ⟨gb312, 2, none⟩) (Kd.R_far (p := ⟨gb312, 1, none⟩) (Kd.R_far (p := ⟨gb312, 0, none⟩) (Kd.R_types HO294.out BK312.out (by decide)) (fun _ hk => hk.2) (.int .i64 t301)) (fun _ hk => hk.2) (.slice Ao34 t302.length co34)) (fun _ hk => hk.2) (.slice Ao35 t305.length co35)) (fun _ hk => hk.2) (.int .i64 t308)) (fun _ hk => hk.2) (.slice Ao36 t309.length co36)) (fun _ h_ => h_.1))) hb) (Kd.R_base ho0)) (Kd.R_base ho1)) (fun _ h_ => h_.1)); have n5_ := Aside0.mk (Kd.R_elder' (by (with_reducible repeat (first | apply Kd.R_alloc | apply Kd.R_drewN | apply Kd.R_drew)); exact (Kd.R_mono (Kd.R_far (p := ⟨gb312, 4, none⟩) (Kd.R_far (p := ⟨gb312, 3, none⟩) (Kd.R_far (p := ⟨gb312, 2, none⟩) (Kd.R_far (p := ⟨gb312, 1, none⟩) (Kd.R_far (p := ⟨gb312, 0, none⟩) (Kd.R_types HO298.out BK312.out (by decide)) (fun _ hk => hk.2) (.int .i64 t301)) (fun _ hk => hk.2) (.slice Ao34 t302.length co34)) (fun _ hk => hk.2) (.slice Ao35 t305.length co35)) (fun _ hk => hk.2) (.int .i64 t308)) (fun _ hk => hk.2) (.slice Ao36 t309.length co36)) (fun _ h_ => h_.1))) (Kd.R_base ho2) hb); have n6_ := Aside0.mk (Kd.R_mono (Kd.R_told (Kd.R_told (Kd.R_old (by (with_reducible repeat (first | apply Kd.R_alloc | apply Kd.R_drewN | apply Kd.R_drew)); exact (Kd.R_mono (Kd.R_far (p := ⟨gb312, 4, none⟩) (Kd.R_far (p := ⟨gb312, 3, none⟩) (Kd.R_far (p := ⟨gb312, 2, none⟩) (Kd.R_far (p := ⟨gb312, 1, none⟩) (Kd.R_far (p := ⟨gb312, 0, none⟩) (Kd.R_types HO304.out BK312.out (by decide)) (fun _ hk => hk.2) (.int .i64 t301)) (fun _ hk => hk.2) (.slice Ao34 t302.length co34)) (fun _ hk => hk.2) (.slice Ao35 t305.length co35)) (fun _ hk => hk.2) (.int .i64 t308)) (fun _ hk => hk.2) (.slice Ao36 t309.length co36)) (fun _ h_ => h_.1))) hb) (Kd.R_base ho0)) (Kd.R_base ho1)) (fun _ h_ => h_.1)); have n7_ := Aside0.mk (Kd.R_mono (Kd.R_told (Kd.R_told (Kd.R_old (by (with_reducible repeat (first | apply Kd.R_alloc | apply Kd.R_drewN | apply Kd.R_drew)); exact (Kd.R_mono (Kd.R_far (p := ⟨gb312, 4, none⟩) (Kd.R_far (p := ⟨gb312, 3, none⟩) (Kd.R_far (p := ⟨gb312, 2, none⟩) (Kd.R_far (p := ⟨gb312, 1, none⟩) (Kd.R_far (p := ⟨gb312, 0, none⟩) (Kd.R_types HO307.out BK312.out (by decide)) (fun _ hk => hk.2) (.int .i64 t301)) (fun _ hk => hk.2) (.slice Ao34 t302.length co34)) (fun _ hk => hk.2) (.slice Ao35 t305.length co35)) (fun _ hk => hk.2) (.int .i64 t308)) (fun _ hk => hk.2) (.slice Ao36 t309.length co36)) (fun _ h_ => h_.1))) hb) (Kd.R_base ho0)) (Kd.R_base ho1)) (fun _ h_ => h_.1)); have n8_ := Aside0.mk (Kd.R_elder' (by (with_reducible repeat (first | apply Kd.R_alloc | apply Kd.R_drewN | apply Kd.R_drew)); exact (Kd.R_mono (Kd.R_far (p := ⟨gb312, 4, none⟩) (Kd.R_far (p := ⟨gb312, 3, none⟩) (Kd.R_far (p := ⟨gb312, 2, none⟩) (Kd.R_far (p := ⟨gb312, 1, none⟩) (Kd.R_far (p := ⟨gb312, 0, none⟩) (Kd.R_types HO311.out BK312.out (by decide)) (fun _ hk => hk.2) (.int .i64 t301)) (fun _ hk => hk.2) (.slice Ao34 t302.length co34)) (fun _ hk => hk.2) (.slice Ao35 t305.length co35)) (fun _ hk => hk.2) (.int .i64 t308)) (fun _ hk => hk.2) (.slice Ao36 t309.length co36)) (fun _ h_ => h_.1))) (Kd.R_base ho2) hb); have n9_ := Aside0.mk (Kd.R_lower (Kd.R_new' (Kd.R_new' (Kd.R_new' (Kd.R_new' (Kd.R_new' (Kd.R_new' ho0 (Kd.R_lt (by (with_reducible repeat (first | apply Kd.R_alloc | apply Kd.R_drewN | apply Kd.R_drew)); exact (Kd.R_mono (Kd.R_far (p := ⟨gb312, 4, none⟩) (Kd.R_far (p := ⟨gb312, 3, none⟩) (Kd.R_far (p := ⟨gb312, 2, none⟩) (Kd.R_far (p := ⟨gb312, 1, none⟩) (Kd.R_far (p := ⟨gb312, 0, none⟩) (Kd.R_types HO280.out BK312.out (by decide)) (fun _ hk => hk.2) (.int .i64 t301)) (fun _ hk => hk.2) (.slice Ao34 t302.length co34)) (fun _ hk => hk.2) (.slice Ao35 t305.length co35)) (fun _ hk => hk.2) (.int .i64 t308)) (fun _ hk => hk.2) (.slice Ao36 t309.length co36)) (fun _ h_ => h_.1))))) (Kd.R_lt (by (with_reducible repeat (first | apply Kd.R_alloc | apply Kd.R_drewN | apply Kd.R_drew)); exact (Kd.R_mono (Kd.R_far (p := ⟨gb312, 4, none⟩) (Kd.R_far (p := ⟨gb312, 3, none⟩) (Kd.R_far (p := ⟨gb312, 2, none⟩) (Kd.R_far (p := ⟨gb312, 1, none⟩) (Kd.R_far (p := ⟨gb312, 0, none⟩) (Kd.R_types HO283.out BK312.out (by decide)) (fun _ hk => hk.2) (.int .i64 t301)) (fun _ hk => hk.2) (.slice Ao34 t302.length co34)) (fun _ hk => hk.2) (.slice Ao35 t305.length co35)) (fun _ hk => hk.2) (.int .i64 t308)) (fun _ hk => hk.2) (.slice Ao36 t309.length co36)) (fun _ h_ => h_.1))))) (Kd.R_lt (by (with_reducible repeat (first | apply Kd.R_alloc | apply Kd.R_drewN | apply Kd.R_drew)); exact (Kd.R_mono (Kd.R_far (p := ⟨gb312, 4, none⟩) (Kd.R_far (p := ⟨gb312, 3, none⟩) (Kd.R_far (p := ⟨gb312, 2, none⟩) (Kd.R_far (p := ⟨gb312, 1, none⟩) (Kd.R_far (p := ⟨gb312, 0, none⟩) (Kd.R_types HO291.out BK312.out (by decide)) (fun _ hk => hk.2) (.int .i64 t301)) (fun _ hk => hk.2) (.slice Ao34 t302.length co34)) (fun _ hk => hk.2) (.slice Ao35 t305.length co35)) (fun _ hk => hk.2) (.int .i64 t308)) (fun _ hk => hk.2) (.slice Ao36 t309.length co36)) (fun _ h_ => h_.1))))) (Kd.R_lt (by (with_reducible repeat (first | apply Kd.R_alloc | apply Kd.R_drewN | apply Kd.R_drew)); exact (Kd.R_mono (Kd.R_far (p := ⟨gb312, 4, none⟩) (Kd.R_far (p := ⟨gb312, 3, none⟩) (Kd.R_far (p := ⟨gb312, 2, none⟩) (Kd.R_far (p := ⟨gb312, 1, none⟩) (Kd.R_far (p := ⟨gb312, 0, none⟩) (Kd.R_types HO294.out BK312.out (by decide)) (fun _ hk => hk.2) (.int .i64 t301)) (fun _ hk => hk.2) (.slice Ao34 t302.length co34)) (fun _ hk => hk.2) (.slice Ao35 t305.length co35)) (fun _ hk => hk.2) (.int .i64 t308)) (fun _ hk => hk.2) (.slice Ao36 t309.length co36)) (fun _ h_ => h_.1))))) (Kd.R_lt (by (with_reducible repeat (first | apply Kd.R_alloc | apply Kd.R_drewN | apply Kd.R_drew)); exact (Kd.R_mono (Kd.R_far (p := ⟨gb312, 4, none⟩) (Kd.R_far (p := ⟨gb312, 3, none⟩) (Kd.R_far (p := ⟨gb312, 2, none⟩) (Kd.R_far (p := ⟨gb312, 1, none⟩) (Kd.R_far (p := ⟨gb312, 0, none⟩) (Kd.R_types HO304.out BK312.out (by decide)) (fun _ hk => hk.2) (.int .i64 t301)) (fun _ hk => hk.2) (.slice Ao34 t302.length co34)) (fun _ hk => hk.2) (.slice Ao35 t305.length co35)) (fun _ hk => hk.2) (.int .i64 t308)) (fun _ hk => hk.2) (.slice Ao36 t309.length co36)) (fun _ h_ => h_.1))))) (Kd.R_lt (by (with_reducible repeat (first | apply Kd.R_alloc | apply Kd.R_drewN | apply Kd.R_drew)); exact (Kd.R_mono (Kd.R_far (p := ⟨gb312, 4, none⟩) (Kd.R_far (p := ⟨gb312, 3, none⟩) (Kd.R_far (p := ⟨gb312, 2, none⟩) (Kd.R_far (p := ⟨gb312, 1, none⟩) (Kd.R_far (p := ⟨gb312, 0, none⟩) (Kd.R_types HO307.out BK312.out (by decide)) (fun _ hk => hk.2) (.int .i64 t301)) (fun _ hk => hk.2) (.slice Ao34 t302.length co34)) (fun _ hk => hk.2) (.slice Ao35 t305.length co35)) (fun _ hk => hk.2) (.int .i64 t308)) (fun _ hk => hk.2) (.slice Ao36 t309.length co36)) (fun _ h_ => h_.1))))) (below_size hb_)); have n10_ := Aside0.mk (Kd.R_lower (Kd.R_new' (Kd.R_new' (Kd.R_new' (Kd.R_new' (Kd.R_new' (Kd.R_new' ho1 (Kd.R_lt (by (with_reducible repeat (first | apply Kd.R_alloc | apply Kd.R_drewN | apply Kd.R_drew)); exact (Kd.R_mono (Kd.R_far (p := ⟨gb312, 4, none⟩) (Kd.R_far (p := ⟨gb312, 3, none⟩) (Kd.R_far (p := ⟨gb312, 2, none⟩) (Kd.R_far (p := ⟨gb312, 1, none⟩) (Kd.R_far (p := ⟨gb312, 0, none⟩) (Kd.R_types HO280.out BK312.out (by decide)) (fun _ hk => hk.2) (.int .i64 t301)) (fun _ hk => hk.2) (.slice Ao34 t302.length co34)) (fun _ hk => hk.2) (.slice Ao35 t305.length co35)) (fun _ hk => hk.2) (.int .i64 t308)) (fun _ hk => hk.2) (.slice Ao36 t309.length co36)) (fun _ h_ => h_.1))))) (Kd.R_lt (by (with_reducible repeat (first | apply Kd.R_alloc | apply Kd.R_drewN | apply Kd.R_drew)); exact (Kd.R_mono (Kd.R_far (p := ⟨gb312, 4, none⟩) (Kd.R_far (p := ⟨gb312, 3, none⟩) (Kd.R_far (p := ⟨gb312, 2, none⟩) (Kd.R_far (p := ⟨gb312, 1, none⟩) (Kd.R_far (p := ⟨gb312, 0, none⟩) (Kd.R_types HO283.out BK312.out (by decide)) (fun _ hk => hk.2) (.int .i64 t301)) (fun _ hk => hk.2) (.slice Ao34 t302.length co34)) (fun _ hk => hk.2) (.slice Ao35 t305.length co35)) (fun _ hk => hk.2) (.int .i64 t308)) (fun _ hk => hk.2) (.slice Ao36 t309.length co36)) (fun _ h_ => h_.1))))) (Kd.R_lt (by (with_reducible repeat (first | apply Kd.R_alloc | apply Kd.R_drewN | apply Kd.R_drew)); exact (Kd.R_mono (Kd.R_far (p := ⟨gb312, 4, none⟩) (Kd.R_far (p := ⟨gb312, 3, none⟩) (Kd.R_far (p := ⟨gb312, 2, none⟩) (Kd.R_far (p := ⟨gb312, 1, none⟩) (Kd.R_far (p := ⟨gb312, 0, none⟩) (Kd.R_types HO291.out BK312.out (by decide)) (fun _ hk => hk.2) (.int .i64 t301)) (fun _ hk => hk.2) (.slice Ao34 t302.length co34)) (fun _ hk => hk.2) (.slice Ao35 t305.length co35)) (fun _ hk => hk.2) (.int .i64 t308)) (fun _ hk => hk.2) (.slice Ao36 t309.length co36)) (fun _ h_ => h_.1))))) (Kd.R_lt (by (with_reducible repeat (first | apply Kd.R_alloc | apply Kd.R_drewN | apply Kd.R_drew)); exact (Kd.R_mono (Kd.R_far (p := ⟨gb312, 4, none⟩) (Kd.R_far (p := ⟨gb312, 3, none⟩) (Kd.R_far (p := ⟨gb312, 2, none⟩) (Kd.R_far (p := ⟨gb312, 1, none⟩) (Kd.R_far (p := ⟨gb312, 0, none⟩) (Kd.R_types HO294.out BK312.out (by decide)) (fun _ hk => hk.2) (.int .i64 t301)) (fun _ hk => hk.2) (.slice Ao34 t302.length co34)) (fun _ hk => hk.2) (.slice Ao35 t305.length co35)) (fun _ hk => hk.2) (.int .i64 t308)) (fun _ hk => hk.2) (.slice Ao36 t309.length co36)) (fun _ h_ => h_.1))))) (Kd.R_lt (by (with_reducible repeat (first | apply Kd.R_alloc | apply Kd.R_drewN | apply Kd.R_drew)); exact (Kd.R_mono (Kd.R_far (p := ⟨gb312, 4, none⟩) (Kd.R_far (p := ⟨gb312, 3, none⟩) (Kd.R_far (p := ⟨gb312, 2, none⟩) (Kd.R_far (p := ⟨gb312, 1, none⟩) (Kd.R_far (p := ⟨gb312, 0, none⟩) (Kd.R_types HO304.out BK312.out (by decide)) (fun _ hk => hk.2) (.int .i64 t301)) (fun _ hk => hk.2) (.slice Ao34 t302.length co34)) (fun _ hk => hk.2) (.slice Ao35 t305.length co35)) (fun _ hk => hk.2) (.int .i64 t308)) (fun _ hk => hk.2) (.slice Ao36 t309.length co36)) (fun _ h_ => h_.1))))) (Kd.R_lt (by (with_reducible repeat (first | apply Kd.R_alloc | apply Kd.R_drewN | apply Kd.R_drew)); exact (Kd.R_mono (Kd.R_far (p := ⟨gb312, 4, none⟩) (Kd.R_far (p := ⟨gb312, 3, none⟩) (Kd.R_far (p := ⟨gb312, 2, none⟩) (Kd.R_far (p := ⟨gb312, 1, none⟩) (Kd.R_far (p := ⟨gb312, 0, none⟩) (Kd.R_types HO307.out BK312.out (by decide)) (fun _ hk => hk.2) (.int .i64 t301)) (fun _ hk => hk.2) (.slice Ao34 t302.length co34)) (fun _ hk => hk.2) (.slice Ao35 t305.length co35)) (fun _ hk => hk.2) (.int .i64 t308)) (fun _ hk => hk.2) (.slice Ao36 t309.length co36)) (fun _ h_ => h_.1))))) (below_size hb_)); have n11_ := Aside0.mk (Kd.R_lower (Kd.R_new' (Kd.R_new' (Kd.R_new' ho2 (Kd.R_lt (by (with_reducible repeat (first | apply Kd.R_alloc | apply Kd.R_drewN | apply Kd.R_drew)); exact (Kd.R_mono (Kd.R_far (p := ⟨gb312, 4, none⟩) (Kd.R_far (p := ⟨gb312, 3, none⟩) (Kd.R_far (p := ⟨gb312, 2, none⟩) (Kd.R_far (p := ⟨gb312, 1, none⟩) (Kd.R_far (p := ⟨gb312, 0, none⟩) (Kd.R_types HO287.out BK312.out (by decide)) (fun _ hk => hk.2) (.int .i64 t301)) (fun _ hk => hk.2) (.slice Ao34 t302.length co34)) (fun _ hk => hk.2) (.slice Ao35 t305.length co35)) (fun _ hk => hk.2) (.int .i64 t308)) (fun _ hk => hk.2) (.slice Ao36 t309.length co36)) (fun _ h_ => h_.1))))) (Kd.R_lt (by (with_reducible repeat (first | apply Kd.R_alloc | apply Kd.R_drewN | apply Kd.R_drew)); exact (Kd.R_mono (Kd.R_far (p := ⟨gb312, 4, none⟩) (Kd.R_far (p := ⟨gb312, 3, none⟩) (Kd.R_far (p := ⟨gb312, 2, none⟩) (Kd.R_far (p := ⟨gb312, 1, none⟩) (Kd.R_far (p := ⟨gb312, 0, none⟩) (Kd.R_types HO298.out BK312.out (by decide)) (fun _ hk => hk.2) (.int .i64 t301)) (fun _ hk => hk.2) (.slice Ao34 t302.length co34)) (fun _ hk => hk.2) (.slice Ao35 t305.length co35)) (fun _ hk => hk.2) (.int .i64 t308)) (fun _ hk => hk.2) (.slice Ao36 t309.length co36)) (fun _ h_ => h_.1))))) (Kd.R_lt (by (with_reducible repeat (first | apply Kd.R_alloc | apply Kd.R_drewN | apply Kd.R_drew)); exact (Kd.R_mono (Kd.R_far (p := ⟨gb312, 4, none⟩) (Kd.R_far (p := ⟨gb312, 3, none⟩) (Kd.R_far (p := ⟨gb312, 2, none⟩) (Kd.R_far (p := ⟨gb312, 1, none⟩) (Kd.R_far (p := ⟨gb312, 0, none⟩) (Kd.R_types HO311.out BK312.out (by decide)) (fun _ hk => hk.2) (.int .i64 t301)) (fun _ hk => hk.2) (.slice Ao34 t302.length co34)) (fun _ hk => hk.2) (.slice Ao35 t305.length co35)) (fun _ hk => hk.2) (.int .i64 t308)) (fun _ hk => hk.2) (.slice Ao36 t309.length co36)) (fun _ h_ => h_.1))))) (below_size hb_)); have n12_ := Aside0.mk (blk_below (g := gb275) (o := .cells #[.int .i64 a0_0, .slice A0_1 l0_1.length c0_1, .slice A0_2 l0_2.length c0_2, .int .i64 a0_3, .slice A0_4 l0_4.length c0_4] 27 (0, 0)) (by (with_reducible repeat (first | refine blk_drewN ?_ _ | refine blk_drew ?_ | refine blk_alloc ?_ _)); refine blk_far ?_ NB275_312.out _; (with_reducible repeat (first | refine blk_drewN ?_ _ | refine blk_drew ?_ | refine blk_alloc ?_ _)); refine blk_far ?_ NB275_312.out _; (with_reducible repeat (first | refine blk_drewN ?_ _ | refine blk_drew ?_ | refine blk_alloc ?_ _)); refine blk_far ?_ NB275_312.out _; (with_reducible repeat (first | refine blk_drewN ?_ _ | refine blk_drew ?_ | refine blk_alloc ?_ _)); refine blk_far ?_ NB275_312.out _; (with_reducible repeat (first | refine blk_drewN ?_ _ | refine blk_drew ?_ | refine blk_alloc ?_ _)); refine blk_far ?_ NB275_312.out _; (with_reducible repeat (first | refine blk_drewN ?_ _ | refine blk_drew ?_ | refine blk_alloc ?_ _)); exact BK275.out) hb); have n13_ := Aside0.mk (blk_below (g := gb300) (o := .cells #[.int .i64 t288, .slice Ao25 t289.length co25, .slice Ao26 t292.length co26, .int .i64 t295, .slice Ao27 t296.length co27] 31 (0, 0)) (by (with_reducible repeat (first | refine blk_drewN ?_ _ | refine blk_drew ?_ | refine blk_alloc ?_ _)); refine blk_far ?_ NB300_312.out _; (with_reducible repeat (first | refine blk_drewN ?_ _ | refine blk_drew ?_ | refine blk_alloc ?_ _)); refine blk_far ?_ NB300_312.out _; (with_reducible repeat (first | refine blk_drewN ?_ _ | refine blk_drew ?_ | refine blk_alloc ?_ _)); refine blk_far ?_ NB300_312.out _; (with_reducible repeat (first | refine blk_drewN ?_ _ | refine blk_drew ?_ | refine blk_alloc ?_ _)); refine blk_far ?_ NB300_312.out _; (with_reducible repeat (first | refine blk_drewN ?_ _ | refine blk_drew ?_ | refine blk_alloc ?_ _)); refine blk_far ?_ NB300_312.out _; (with_reducible repeat (first | refine blk_drewN ?_ _ | refine blk_drew ?_ | refine blk_alloc ?_ _)); exact BK300.out) hb); have n14_ := Aside0.mk (blk_below (g := gb312) (o := .cells #[.int .i64 t301, .slice Ao34 t302.length co34, .slice Ao35 t305.length co35, .int .i64 t308, .slice Ao36 t309.length co36] 31 (0, 0)) (by (with_reducible repeat (first | refine blk_drewN ?_ _ | refine blk_drew ?_ | refine blk_alloc ?_ _)); refine blk_put (cs := #[.int .i64 t301, .slice Ao34 t302.length co34, .slice Ao35 t305.length co35, .int .i64 t308, .slice none 0 0]) ?_ 4 _ rfl; (with_reducible repeat (first | refine blk_drewN ?_ _ | refine blk_drew ?_ | refine blk_alloc ?_ _)); refine blk_put (cs := #[.int .i64 t301, .slice Ao34 t302.length co34, .slice Ao35 t305.length co35, .int .i64 0, .slice none 0 0]) ?_ 3 _ rfl; (with_reducible repeat (first | refine blk_drewN ?_ _ | refine blk_drew ?_ | refine blk_alloc ?_ _)); refine blk_put (cs := #[.int .i64 t301, .slice Ao34 t302.length co34, .slice none 0 0, .int .i64 0, .slice none 0 0]) ?_ 2 _ rfl; (with_reducible repeat (first | refine blk_drewN ?_ _ | refine blk_drew ?_ | refine blk_alloc ?_ _)); refine blk_put (cs := #[.int .i64 t301, .slice none 0 0, .slice none 0 0, .int .i64 0, .slice none 0 0]) ?_ 1 _ rfl; (with_reducible repeat (first | refine blk_drewN ?_ _ | refine blk_drew ?_ | refine blk_alloc ?_ _)); refine blk_put (cs := #[.int .i64 0, .slice none 0 0, .slice none 0 0, .int .i64 0, .slice none 0 0]) ?_ 0 _ rfl; (with_reducible repeat (first | refine blk_drewN ?_ _ | refine blk_drew ?_ | refine blk_alloc ?_ _)); exact BK312.out) hb); have n15_ := Aside0.mk (below_step hb_ hb); clear HO280; clear HO283; clear HO287; clear HO291; clear HO294; clear HO298; clear HO304; clear HO307; clear HO311; clear BK275; clear BK300; clear BK312; clear HB; have HO280 := n0_; have HO283 := n1_; have HO287 := n2_; have HO291 := n3_; have HO294 := n4_; have HO298 := n5_; have HO304 := n6_; have HO307 := n7_; have HO311 := n8_; have HO316 := n9_; have HO319 := n10_; have HO323 := n11_; have BK275 := n12_; have BK300 := n13_; have BK312 := n14_; have HB := n15_; clear n0_ n1_ n2_ n3_ n4_ n5_ n6_ n7_ n8_ n9_ n10_ n11_ n12_ n13_ n14_ n15_; (try clear hb); (try clear hb2); (try clear hk); (try clear hi); (try clear ho0); (try clear ho1); (try clear ho2)) | ((with_reducible refine gate_dst (N := 9) rfl ?_); refine bx_ (N := 9) (cs := #[.int .i64 0, .slice none 0 0, .slice none 0 0, .int .i64 0, .slice none 0 0]) (t := 31) ?_; intro gb325 hg w38 hbox hb; have n0_ := Aside0.mk (Kd.R_below (by (with_reducible repeat (first | apply Kd.R_alloc | apply Kd.R_drewN | apply Kd.R_drew)); exact HO280.out) hb); have n1_ := Aside0.mk (Kd.R_below (by (with_reducible repeat (first | apply Kd.R_alloc | apply Kd.R_drewN | apply Kd.R_drew)); exact HO283.out) hb); have n2_ := Aside0.mk (Kd.R_below (by (with_reducible repeat (first | apply Kd.R_alloc | apply Kd.R_drewN | apply Kd.R_drew)); exact HO287.out) hb); have n3_ := Aside0.mk (Kd.R_below (by (with_reducible repeat (first | apply Kd.R_alloc | apply Kd.R_drewN | apply Kd.R_drew)); exact HO291.out) hb); have n4_ := Aside0.mk (Kd.R_below (by (with_reducible repeat (first | apply Kd.R_alloc | apply Kd.R_drewN | apply Kd.R_drew)); exact HO294.out) hb); have n5_ := Aside0.mk (Kd.R_below (by (with_reducible repeat (first | apply Kd.R_alloc | apply Kd.R_drewN | apply Kd.R_drew)); exact HO298.out) hb); have n6_ := Aside0.mk (Kd.R_below (by (with_reducible repeat (first | apply Kd.R_alloc | apply Kd.R_drewN | apply Kd.R_drew)); exact HO304.out) hb); have n7_ := Aside0.mk (Kd.R_below (by (with_reducible repeat (first | apply Kd.R_alloc | apply Kd.R_drewN | apply Kd.R_drew)); exact HO307.out) hb); have n8_ := Aside0.mk (Kd.R_below (by (with_reducible repeat (first | apply Kd.R_alloc | apply Kd.R_drewN | apply Kd.R_drew)); exact HO311.out) hb); have n9_ := Aside0.mk (Kd.R_below (by (with_reducible repeat (first | apply Kd.R_alloc | apply Kd.R_drewN | apply Kd.R_drew)); exact HO316.out) hb); have n10_ := Aside0.mk (Kd.R_below (by (with_reducible repeat (first | apply Kd.R_alloc | apply Kd.R_drewN | apply Kd.R_drew)); exact HO319.out) hb); have n11_ := Aside0.mk (Kd.R_below (by (with_reducible repeat (first | apply Kd.R_alloc | apply Kd.R_drewN | apply Kd.R_drew)); exact HO323.out) hb); have n12_ := Aside0.mk (blk_below (g := gb275) (o := .cells #[.int .i64 a0_0, .slice A0_1 l0_1.length c0_1, .slice A0_2 l0_2.length c0_2, .int .i64 a0_3, .slice A0_4 l0_4.length c0_4] 27 (0, 0)) bk_ hb); have n13_ := Aside0.mk (blk_below (g := gb300) (o := .cells #[.int .i64 t288, .slice Ao25 t289.length co25, .slice Ao26 t292.length co26, .int .i64 t295, .slice Ao27 t296.length co27] 31 (0, 0)) bk_ hb); have n14_ := Aside0.mk (blk_below (g := gb312) (o := .cells #[.int .i64 t301, .slice Ao34 t302.length co34, .slice Ao35 t305.length co35, .int .i64 t308, .slice Ao36 t309.length co36] 31 (0, 0)) bk_ hb); have n15_ := Aside0.mk (below_step hb_ hb); have n16_ := Aside0.mk (hbox); have n17_ := Aside0.mk ((hg_ : w.heap.size ≤ gb325)); have n18_ := Aside0.mk ((hg_ : w.heap.size ≤ gb325)); have n19_ := Aside0.mk ((nl_ : gb275 ≠ gb325)); have n20_ := Aside0.mk ((ng_ : gb325 ≠ gb275)); have n21_ := Aside0.mk ((nl_ : gb300 ≠ gb325)); have n22_ := Aside0.mk ((ng_ : gb325 ≠ gb300)); have n23_ := Aside0.mk ((nl_ : gb312 ≠ gb325)); have n24_ := Aside0.mk ((ng_ : gb325 ≠ gb312)); clear HO280; clear HO283; clear HO287; clear HO291; clear HO294; clear HO298; clear HO304; clear HO307; clear HO311; clear HO316; clear HO319; clear HO323; clear BK275; clear BK300; clear BK312; clear HB; have HO280 := n0_; have HO283 := n1_; have HO287 := n2_; have HO291 := n3_; have HO294 := n4_; have HO298 := n5_; have HO304 := n6_; have HO307 := n7_; have HO311 := n8_; have HO316 := n9_; have HO319 := n10_; have HO323 := n11_; have BK275 := n12_; have BK300 := n13_; have BK312 := n14_; have HB := n15_; have BK325 := n16_; have GW325 := n17_; have GE325 := n18_; have NB275_325 := n19_; have NB325_275 := n20_; have NB300_325 := n21_; have NB325_300 := n22_; have NB312_325 := n23_; have NB325_312 := n24_; clear n0_ n1_ n2_ n3_ n4_ n5_ n6_ n7_ n8_ n9_ n10_ n11_ n12_ n13_ n14_ n15_ n16_ n17_ n18_ n19_ n20_ n21_ n22_ n23_ n24_; clear hb hbox hg; have hnb39 := NB325_275.out; have hnc39 := NB275_325.out; have hnb40 := NB325_300.out; have hnc40 := NB300_325.out; have hnb41 := NB325_312.out; have hnc41 := NB312_325.out; have hcz42_0 : w38.cell? ⟨gb325, 0, none⟩ = some (.int .i64 0) := (blk_cell BK325.out 0).trans rfl; have hcz42_1 : w38.cell? ⟨gb325, 1, none⟩ = some (.slice none 0 0) := (blk_cell BK325.out 1).trans rfl; have hcz42_2 : w38.cell? ⟨gb325, 2, none⟩ = some (.slice none 0 0) := (blk_cell BK325.out 2).trans rfl; have hcz42_3 : w38.cell? ⟨gb325, 3, none⟩ = some (.int .i64 0) := (blk_cell BK325.out 3).trans rfl; have hcz42_4 : w38.cell? ⟨gb325, 4, none⟩ = some (.slice none 0 0) := (blk_cell BK325.out 4).trans rfl; have hfz42_0 := blk_frozen BK325.out 0; have hfz42_1 := blk_frozen BK325.out 1; have hfz42_2 := blk_frozen BK325.out 2; have hfz42_3 := blk_frozen BK325.out 3; have hfz42_4 := blk_frozen BK325.out 4; obtain ⟨Ao43, co43, eo43⟩ := Kd.R_slice HO316.out; subst eo43; obtain ⟨Ao44, co44, eo44⟩ := Kd.R_slice HO319.out; subst eo44; obtain ⟨Ao45, co45, eo45⟩ := Kd.R_slice HO323.out; subst eo45))
    (try simp only [Act.put, List.setIfInBounds_toArray, List.set_cons_zero, List.set_cons_succ])
    go_cut [44] (fun v44 wc => ∃ (kq : Nat) (x44_11 : Bool), v44 = .bool x44_11 ∧ Aside0 (laws_FnExactCelInput.j0 kq a1 t299 t324 x44_11 a0_0 l0_1 l0_2 a0_3 l0_4 t288 t289 t292 t295 t296 t301 t302 t305 t308 t309 t313 t314 t317 t320 t321 = some r) ∧ Aside0 (kq ≤ k) ∧ Aside0 (Kd.R (Kd.int .i64) 3 wc w.heap.size (fun k_ => some k_ ≠ ((.slice Ao26 t292.length co26) : Value).ownBlock ∧ some k_ ≠ ((.slice Ao34 t302.length co34) : Value).ownBlock ∧ some k_ ≠ ((.slice Ao35 t305.length co35) : Value).ownBlock ∧ some k_ ≠ ((.slice Ao43 t314.length co43) : Value).ownBlock ∧ some k_ ≠ ((.slice Ao44 t317.length co44) : Value).ownBlock) (.slice Ao25 t289.length co25) t289) ∧ Aside0 (Kd.R (Kd.int .i64) 3 wc w.heap.size (fun k_ => some k_ ≠ ((.slice Ao25 t289.length co25) : Value).ownBlock ∧ some k_ ≠ ((.slice Ao34 t302.length co34) : Value).ownBlock ∧ some k_ ≠ ((.slice Ao35 t305.length co35) : Value).ownBlock ∧ some k_ ≠ ((.slice Ao43 t314.length co43) : Value).ownBlock ∧ some k_ ≠ ((.slice Ao44 t317.length co44) : Value).ownBlock) (.slice Ao26 t292.length co26) t292) ∧ Aside0 (Kd.R (Kd.int .u8) 5 wc w.heap.size (fun k_ => some k_ ≠ ((.slice Ao36 t309.length co36) : Value).ownBlock ∧ some k_ ≠ ((.slice Ao45 t321.length co45) : Value).ownBlock) (.slice Ao27 t296.length co27) t296) ∧ Aside0 (Kd.R (Kd.int .i64) 3 wc w.heap.size (fun k_ => some k_ ≠ ((.slice Ao25 t289.length co25) : Value).ownBlock ∧ some k_ ≠ ((.slice Ao26 t292.length co26) : Value).ownBlock ∧ some k_ ≠ ((.slice Ao35 t305.length co35) : Value).ownBlock ∧ some k_ ≠ ((.slice Ao43 t314.length co43) : Value).ownBlock ∧ some k_ ≠ ((.slice Ao44 t317.length co44) : Value).ownBlock) (.slice Ao34 t302.length co34) t302) ∧ Aside0 (Kd.R (Kd.int .i64) 3 wc w.heap.size (fun k_ => some k_ ≠ ((.slice Ao25 t289.length co25) : Value).ownBlock ∧ some k_ ≠ ((.slice Ao26 t292.length co26) : Value).ownBlock ∧ some k_ ≠ ((.slice Ao34 t302.length co34) : Value).ownBlock ∧ some k_ ≠ ((.slice Ao43 t314.length co43) : Value).ownBlock ∧ some k_ ≠ ((.slice Ao44 t317.length co44) : Value).ownBlock) (.slice Ao35 t305.length co35) t305) ∧ Aside0 (Kd.R (Kd.int .u8) 5 wc w.heap.size (fun k_ => some k_ ≠ ((.slice Ao27 t296.length co27) : Value).ownBlock ∧ some k_ ≠ ((.slice Ao45 t321.length co45) : Value).ownBlock) (.slice Ao36 t309.length co36) t309) ∧ Aside0 (Kd.R (Kd.int .i64) 3 wc w.heap.size (fun k_ => some k_ ≠ ((.slice Ao25 t289.length co25) : Value).ownBlock ∧ some k_ ≠ ((.slice Ao26 t292.length co26) : Value).ownBlock ∧ some k_ ≠ ((.slice Ao34 t302.length co34) : Value).ownBlock ∧ some k_ ≠ ((.slice Ao35 t305.length co35) : Value).ownBlock ∧ some k_ ≠ ((.slice Ao44 t317.length co44) : Value).ownBlock) (.slice Ao43 t314.length co43) t314) ∧ Aside0 (Kd.R (Kd.int .i64) 3 wc w.heap.size (fun k_ => some k_ ≠ ((.slice Ao25 t289.length co25) : Value).ownBlock ∧ some k_ ≠ ((.slice Ao26 t292.length co26) : Value).ownBlock ∧ some k_ ≠ ((.slice Ao34 t302.length co34) : Value).ownBlock ∧ some k_ ≠ ((.slice Ao35 t305.length co35) : Value).ownBlock ∧ some k_ ≠ ((.slice Ao43 t314.length co43) : Value).ownBlock) (.slice Ao44 t317.length co44) t317) ∧ Aside0 (Kd.R (Kd.int .u8) 5 wc w.heap.size (fun k_ => some k_ ≠ ((.slice Ao27 t296.length co27) : Value).ownBlock ∧ some k_ ≠ ((.slice Ao36 t309.length co36) : Value).ownBlock) (.slice Ao45 t321.length co45) t321) ∧ Aside0 (wc.heap[gb275]? = some (.cells #[.int .i64 a0_0, (.slice A0_1 l0_1.length c0_1), (.slice A0_2 l0_2.length c0_2), .int .i64 a0_3, (.slice A0_4 l0_4.length c0_4)] 27 (0, 0))) ∧ Aside0 (wc.heap[gb300]? = some (.cells #[.int .i64 t288, (.slice Ao25 t289.length co25), (.slice Ao26 t292.length co26), .int .i64 t295, (.slice Ao27 t296.length co27)] 31 (0, 0))) ∧ Aside0 (wc.heap[gb312]? = some (.cells #[.int .i64 t301, (.slice Ao34 t302.length co34), (.slice Ao35 t305.length co35), .int .i64 t308, (.slice Ao36 t309.length co36)] 31 (0, 0))) ∧ Aside0 (wc.heap[gb325]? = some (.cells #[.int .i64 t313, (.slice Ao43 t314.length co43), (.slice Ao44 t317.length co44), .int .i64 t320, (.slice Ao45 t321.length co45)] 31 (0, 0))) ∧ Aside0 (Below w.heap.size w wc))
    case first =>
      have H := HC12.out
      clear HC12
      replace H := Option.bind_eq_some_iff.mp H
      obtain ⟨t326, A460, H⟩ := H
      replace H : (if t326 = true then (laws_FnExactCelInput.j0 k a1 t299 t324 (t324 != t299) a0_0 l0_1 l0_2 a0_3 l0_4 t288 t289 t292 t295 t296 t301 t302 t305 t308 t309 t313 t314 t317 t320 t321) else (laws_FnExactCelInput.j0 k a1 t299 t324 true a0_0 l0_1 l0_2 a0_3 l0_4 t288 t289 t292 t295 t296 t301 t302 t305 t308 t309 t313 t314 t317 t320 t321)) = some r := H
      have A46 := Aside0.mk A460
      clear A460
      by_cases c47 : t326 = true
      · subst c47
        have H1 : (laws_FnExactCelInput.j0 k a1 t299 t324 (t324 != t299) a0_0 l0_1 l0_2 a0_3 l0_4 t288 t289 t292 t295 t296 t301 t302 t305 t308 t309 t313 t314 t317 t320 t321) = some r := by rw [if_pos rfl] at H; exact H
        clear H
        have H := H1
        clear H1
        have H' := Aside0.mk H
        clear H
        have hnb48 := NB325_275.out
        have hnc48 := NB275_325.out
        have hnb49 := NB325_300.out
        have hnc49 := NB300_325.out
        have hnb50 := NB325_312.out
        have hnc50 := NB312_325.out
        have hcz51_0 : w38.cell? ⟨gb325, 0, none⟩ = some (.int .i64 0) := (blk_cell BK325.out 0).trans rfl
        have hcz51_1 : w38.cell? ⟨gb325, 1, none⟩ = some (.slice none 0 0) := (blk_cell BK325.out 1).trans rfl
        have hcz51_2 : w38.cell? ⟨gb325, 2, none⟩ = some (.slice none 0 0) := (blk_cell BK325.out 2).trans rfl
        have hcz51_3 : w38.cell? ⟨gb325, 3, none⟩ = some (.int .i64 0) := (blk_cell BK325.out 3).trans rfl
        have hcz51_4 : w38.cell? ⟨gb325, 4, none⟩ = some (.slice none 0 0) := (blk_cell BK325.out 4).trans rfl
        have hfz51_0 := blk_frozen BK325.out 0
        have hfz51_1 := blk_frozen BK325.out 1
        have hfz51_2 := blk_frozen BK325.out 2
        have hfz51_3 := blk_frozen BK325.out 3
        have hfz51_4 := blk_frozen BK325.out 4
        have hnb52 := NB300_275.out
        have hnc52 := NB275_300.out
        have hnb53 := NB300_312.out
        have hnc53 := NB312_300.out
        have hcz54_0 : w38.cell? ⟨gb300, 0, none⟩ = some (.int .i64 t288) := (blk_cell BK300.out 0).trans rfl
        have hcz54_1 : w38.cell? ⟨gb300, 1, none⟩ = some (.slice Ao25 t289.length co25) := (blk_cell BK300.out 1).trans rfl
        have hcz54_2 : w38.cell? ⟨gb300, 2, none⟩ = some (.slice Ao26 t292.length co26) := (blk_cell BK300.out 2).trans rfl
        have hcz54_3 : w38.cell? ⟨gb300, 3, none⟩ = some (.int .i64 t295) := (blk_cell BK300.out 3).trans rfl
        have hcz54_4 : w38.cell? ⟨gb300, 4, none⟩ = some (.slice Ao27 t296.length co27) := (blk_cell BK300.out 4).trans rfl
        have hfz54_0 := blk_frozen BK300.out 0
        have hfz54_1 := blk_frozen BK300.out 1
        have hfz54_2 := blk_frozen BK300.out 2
        have hfz54_3 := blk_frozen BK300.out 3
        have hfz54_4 := blk_frozen BK300.out 4
        go_wp2_with (first | ((with_reducible refine gate_callee (f := 9) rfl ?_); refine goesL_ (some 38) rfl rfl Try.func9 (by kernel_rfl) rfl #[.agg #[.int .i64 t313, .slice Ao43 t314.length co43, .slice Ao44 t317.length co44, .int .i64 t320, .slice Ao45 t321.length co45], .agg #[.int .i64 t288, .slice Ao25 t289.length co25, .slice Ao26 t292.length co26, .int .i64 t295, .slice Ao27 t296.length co27]] rfl ml_ ?_; (with_reducible refine (laws_eqCelCell.calls k t313 _ _ t314 _ _ t317 t320 _ _ t321 t288 _ _ t289 _ _ t292 t295 _ _ t296 true _ ?side1 ?side2 ?side3 ?side4 ?side5 ?side6 ?side7 ?side8 ?side9 ?side10 ?side11 ?side12 A46.out).mono ?_); (case side1 => refine (Kd.R_reads' (e := 3) (base := w.heap.size) (ok := fun k_ => ((((((some k_ ≠ (.slice Ao44 t317.length co44 : Value).ownBlock ∧ some k_ ≠ (.slice Ao18 t278.length co18 : Value).ownBlock) ∧ some k_ ≠ (.slice Ao19 t281.length co19 : Value).ownBlock) ∧ some k_ ≠ (.slice Ao25 t289.length co25 : Value).ownBlock) ∧ some k_ ≠ (.slice Ao26 t292.length co26 : Value).ownBlock) ∧ some k_ ≠ (.slice Ao34 t302.length co34 : Value).ownBlock) ∧ some k_ ≠ (.slice Ao35 t305.length co35 : Value).ownBlock)) (n := t314.length) (c := co43) ?_).2.2; exact (by (with_reducible repeat (first | apply Kd.R_alloc | apply Kd.R_drewN | apply Kd.R_drew)); exact (Kd.R_mono (Kd.R_far (p := ⟨gb325, 4, none⟩) (Kd.R_far (p := ⟨gb325, 3, none⟩) (Kd.R_far (p := ⟨gb325, 2, none⟩) (Kd.R_far (p := ⟨gb325, 1, none⟩) (Kd.R_far (p := ⟨gb325, 0, none⟩) (Kd.R_types HO316.out BK325.out (by decide)) (fun _ hk => hk.2) (.int .i64 t313)) (fun _ hk => hk.2) (.slice Ao43 t314.length co43)) (fun _ hk => hk.2) (.slice Ao44 t317.length co44)) (fun _ hk => hk.2) (.int .i64 t320)) (fun _ hk => hk.2) (.slice Ao45 t321.length co45)) (fun _ h_ => h_.1)))); (case side2 => exact (Kd.R_reads' HO316.out).2.1); (case side3 => refine (Kd.R_reads' (e := 3) (base := w.heap.size) (ok := fun k_ => ((((((some k_ ≠ (.slice Ao43 t314.length co43 : Value).ownBlock ∧ some k_ ≠ (.slice Ao18 t278.length co18 : Value).ownBlock) ∧ some k_ ≠ (.slice Ao19 t281.length co19 : Value).ownBlock) ∧ some k_ ≠ (.slice Ao25 t289.length co25 : Value).ownBlock) ∧ some k_ ≠ (.slice Ao26 t292.length co26 : Value).ownBlock) ∧ some k_ ≠ (.slice Ao34 t302.length co34 : Value).ownBlock) ∧ some k_ ≠ (.slice Ao35 t305.length co35 : Value).ownBlock)) (n := t317.length) (c := co44) ?_).2.2; exact (by (with_reducible repeat (first | apply Kd.R_alloc | apply Kd.R_drewN | apply Kd.R_drew)); exact (Kd.R_mono (Kd.R_far (p := ⟨gb325, 4, none⟩) (Kd.R_far (p := ⟨gb325, 3, none⟩) (Kd.R_far (p := ⟨gb325, 2, none⟩) (Kd.R_far (p := ⟨gb325, 1, none⟩) (Kd.R_far (p := ⟨gb325, 0, none⟩) (Kd.R_types HO319.out BK325.out (by decide)) (fun _ hk => hk.2) (.int .i64 t313)) (fun _ hk => hk.2) (.slice Ao43 t314.length co43)) (fun _ hk => hk.2) (.slice Ao44 t317.length co44)) (fun _ hk => hk.2) (.int .i64 t320)) (fun _ hk => hk.2) (.slice Ao45 t321.length co45)) (fun _ h_ => h_.1)))); (case side4 => exact (Kd.R_reads' HO319.out).2.1); (case side5 => refine (Kd.R_reads' (e := 5) (base := w.heap.size) (ok := fun k_ => (((True ∧ some k_ ≠ (.slice Ao20 t285.length co20 : Value).ownBlock) ∧ some k_ ≠ (.slice Ao27 t296.length co27 : Value).ownBlock) ∧ some k_ ≠ (.slice Ao36 t309.length co36 : Value).ownBlock)) (n := t321.length) (c := co45) ?_).2.2; exact (by (with_reducible repeat (first | apply Kd.R_alloc | apply Kd.R_drewN | apply Kd.R_drew)); exact (Kd.R_mono (Kd.R_far (p := ⟨gb325, 4, none⟩) (Kd.R_far (p := ⟨gb325, 3, none⟩) (Kd.R_far (p := ⟨gb325, 2, none⟩) (Kd.R_far (p := ⟨gb325, 1, none⟩) (Kd.R_far (p := ⟨gb325, 0, none⟩) (Kd.R_types HO323.out BK325.out (by decide)) (fun _ hk => hk.2) (.int .i64 t313)) (fun _ hk => hk.2) (.slice Ao43 t314.length co43)) (fun _ hk => hk.2) (.slice Ao44 t317.length co44)) (fun _ hk => hk.2) (.int .i64 t320)) (fun _ hk => hk.2) (.slice Ao45 t321.length co45)) (fun _ h_ => h_.1)))); (case side6 => exact (Kd.R_reads' HO323.out).2.1); (case side7 => refine (Kd.R_reads' (e := 3) (base := w.heap.size) (ok := fun k_ => ((((((some k_ ≠ (.slice Ao26 t292.length co26 : Value).ownBlock ∧ some k_ ≠ (.slice Ao18 t278.length co18 : Value).ownBlock) ∧ some k_ ≠ (.slice Ao19 t281.length co19 : Value).ownBlock) ∧ some k_ ≠ (.slice Ao34 t302.length co34 : Value).ownBlock) ∧ some k_ ≠ (.slice Ao35 t305.length co35 : Value).ownBlock) ∧ some k_ ≠ (.slice Ao43 t314.length co43 : Value).ownBlock) ∧ some k_ ≠ (.slice Ao44 t317.length co44 : Value).ownBlock)) (n := t289.length) (c := co25) ?_).2.2; exact (by (with_reducible repeat (first | apply Kd.R_alloc | apply Kd.R_drewN | apply Kd.R_drew)); exact (Kd.R_mono (Kd.R_far (p := ⟨gb325, 4, none⟩) (Kd.R_far (p := ⟨gb325, 3, none⟩) (Kd.R_far (p := ⟨gb325, 2, none⟩) (Kd.R_far (p := ⟨gb325, 1, none⟩) (Kd.R_far (p := ⟨gb325, 0, none⟩) (Kd.R_types HO291.out BK325.out (by decide)) (fun _ hk => hk.2) (.int .i64 t313)) (fun _ hk => hk.2) (.slice Ao43 t314.length co43)) (fun _ hk => hk.2) (.slice Ao44 t317.length co44)) (fun _ hk => hk.2) (.int .i64 t320)) (fun _ hk => hk.2) (.slice Ao45 t321.length co45)) (fun _ h_ => h_.1)))); (case side8 => exact (Kd.R_reads' HO291.out).2.1); (case side9 => refine (Kd.R_reads' (e := 3) (base := w.heap.size) (ok := fun k_ => ((((((some k_ ≠ (.slice Ao25 t289.length co25 : Value).ownBlock ∧ some k_ ≠ (.slice Ao18 t278.length co18 : Value).ownBlock) ∧ some k_ ≠ (.slice Ao19 t281.length co19 : Value).ownBlock) ∧ some k_ ≠ (.slice Ao34 t302.length co34 : Value).ownBlock) ∧ some k_ ≠ (.slice Ao35 t305.length co35 : Value).ownBlock) ∧ some k_ ≠ (.slice Ao43 t314.length co43 : Value).ownBlock) ∧ some k_ ≠ (.slice Ao44 t317.length co44 : Value).ownBlock)) (n := t292.length) (c := co26) ?_).2.2; exact (by (with_reducible repeat (first | apply Kd.R_alloc | apply Kd.R_drewN | apply Kd.R_drew)); exact (Kd.R_mono (Kd.R_far (p := ⟨gb325, 4, none⟩) (Kd.R_far (p := ⟨gb325, 3, none⟩) (Kd.R_far (p := ⟨gb325, 2, none⟩) (Kd.R_far (p := ⟨gb325, 1, none⟩) (Kd.R_far (p := ⟨gb325, 0, none⟩) (Kd.R_types HO294.out BK325.out (by decide)) (fun _ hk => hk.2) (.int .i64 t313)) (fun _ hk => hk.2) (.slice Ao43 t314.length co43)) (fun _ hk => hk.2) (.slice Ao44 t317.length co44)) (fun _ hk => hk.2) (.int .i64 t320)) (fun _ hk => hk.2) (.slice Ao45 t321.length co45)) (fun _ h_ => h_.1)))); (case side10 => exact (Kd.R_reads' HO294.out).2.1); (case side11 => refine (Kd.R_reads' (e := 5) (base := w.heap.size) (ok := fun k_ => (((True ∧ some k_ ≠ (.slice Ao20 t285.length co20 : Value).ownBlock) ∧ some k_ ≠ (.slice Ao36 t309.length co36 : Value).ownBlock) ∧ some k_ ≠ (.slice Ao45 t321.length co45 : Value).ownBlock)) (n := t296.length) (c := co27) ?_).2.2; exact (by (with_reducible repeat (first | apply Kd.R_alloc | apply Kd.R_drewN | apply Kd.R_drew)); exact (Kd.R_mono (Kd.R_far (p := ⟨gb325, 4, none⟩) (Kd.R_far (p := ⟨gb325, 3, none⟩) (Kd.R_far (p := ⟨gb325, 2, none⟩) (Kd.R_far (p := ⟨gb325, 1, none⟩) (Kd.R_far (p := ⟨gb325, 0, none⟩) (Kd.R_types HO298.out BK325.out (by decide)) (fun _ hk => hk.2) (.int .i64 t313)) (fun _ hk => hk.2) (.slice Ao43 t314.length co43)) (fun _ hk => hk.2) (.slice Ao44 t317.length co44)) (fun _ hk => hk.2) (.int .i64 t320)) (fun _ hk => hk.2) (.slice Ao45 t321.length co45)) (fun _ h_ => h_.1)))); (case side12 => exact (Kd.R_reads' HO298.out).2.1); rintro e w55 ⟨rfl, hb⟩; refine ⟨_, rfl, ?_⟩; have n0_ := Aside0.mk (Kd.R_below (by (with_reducible repeat (first | apply Kd.R_alloc | apply Kd.R_drewN | apply Kd.R_drew)); exact (Kd.R_mono (Kd.R_far (p := ⟨gb325, 4, none⟩) (Kd.R_far (p := ⟨gb325, 3, none⟩) (Kd.R_far (p := ⟨gb325, 2, none⟩) (Kd.R_far (p := ⟨gb325, 1, none⟩) (Kd.R_far (p := ⟨gb325, 0, none⟩) (Kd.R_types HO280.out BK325.out (by decide)) (fun _ hk => hk.2) (.int .i64 t313)) (fun _ hk => hk.2) (.slice Ao43 t314.length co43)) (fun _ hk => hk.2) (.slice Ao44 t317.length co44)) (fun _ hk => hk.2) (.int .i64 t320)) (fun _ hk => hk.2) (.slice Ao45 t321.length co45)) (fun _ h_ => h_.1))) hb); have n1_ := Aside0.mk (Kd.R_below (by (with_reducible repeat (first | apply Kd.R_alloc | apply Kd.R_drewN | apply Kd.R_drew)); exact (Kd.R_mono (Kd.R_far (p := ⟨gb325, 4, none⟩) (Kd.R_far (p := ⟨gb325, 3, none⟩) (Kd.R_far (p := ⟨gb325, 2, none⟩) (Kd.R_far (p := ⟨gb325, 1, none⟩) (Kd.R_far (p := ⟨gb325, 0, none⟩) (Kd.R_types HO283.out BK325.out (by decide)) (fun _ hk => hk.2) (.int .i64 t313)) (fun _ hk => hk.2) (.slice Ao43 t314.length co43)) (fun _ hk => hk.2) (.slice Ao44 t317.length co44)) (fun _ hk => hk.2) (.int .i64 t320)) (fun _ hk => hk.2) (.slice Ao45 t321.length co45)) (fun _ h_ => h_.1))) hb); have n2_ := Aside0.mk (Kd.R_below (by (with_reducible repeat (first | apply Kd.R_alloc | apply Kd.R_drewN | apply Kd.R_drew)); exact (Kd.R_mono (Kd.R_far (p := ⟨gb325, 4, none⟩) (Kd.R_far (p := ⟨gb325, 3, none⟩) (Kd.R_far (p := ⟨gb325, 2, none⟩) (Kd.R_far (p := ⟨gb325, 1, none⟩) (Kd.R_far (p := ⟨gb325, 0, none⟩) (Kd.R_types HO287.out BK325.out (by decide)) (fun _ hk => hk.2) (.int .i64 t313)) (fun _ hk => hk.2) (.slice Ao43 t314.length co43)) (fun _ hk => hk.2) (.slice Ao44 t317.length co44)) (fun _ hk => hk.2) (.int .i64 t320)) (fun _ hk => hk.2) (.slice Ao45 t321.length co45)) (fun _ h_ => h_.1))) hb); have n3_ := Aside0.mk (Kd.R_below (by (with_reducible repeat (first | apply Kd.R_alloc | apply Kd.R_drewN | apply Kd.R_drew)); exact (Kd.R_mono (Kd.R_far (p := ⟨gb325, 4, none⟩) (Kd.R_far (p := ⟨gb325, 3, none⟩) (Kd.R_far (p := ⟨gb325, 2, none⟩) (Kd.R_far (p := ⟨gb325, 1, none⟩) (Kd.R_far (p := ⟨gb325, 0, none⟩) (Kd.R_types HO291.out BK325.out (by decide)) (fun _ hk => hk.2) (.int .i64 t313)) (fun _ hk => hk.2) (.slice Ao43 t314.length co43)) (fun _ hk => hk.2) (.slice Ao44 t317.length co44)) (fun _ hk => hk.2) (.int .i64 t320)) (fun _ hk => hk.2) (.slice Ao45 t321.length co45)) (fun _ h_ => h_.1))) hb); have n4_ := Aside0.mk (Kd.R_below (by (with_reducible repeat (first | apply Kd.R_alloc | apply Kd.R_drewN | apply Kd.R_drew)); exact (Kd.R_mono (Kd.R_far (p := ⟨gb325, 4, none⟩) (Kd.R_far (p := ⟨gb325, 3, none⟩) (Kd.R_far (p := ⟨gb325, 2, none⟩) (Kd.R_far (p := ⟨gb325, 1, none⟩) (Kd.R_far (p := ⟨gb325, 0, none⟩) (Kd.R_types HO294.out BK325.out (by decide)) (fun _ hk => hk.2) (.int .i64 t313)) (fun _ hk => hk.2) (.slice Ao43 t314.length co43)) (fun _ hk => hk.2) (.slice Ao44 t317.length co44)) (fun _ hk => hk.2) (.int .i64 t320)) (fun _ hk => hk.2) (.slice Ao45 t321.length co45)) (fun _ h_ => h_.1))) hb); have n5_ := Aside0.mk (Kd.R_below (by (with_reducible repeat (first | apply Kd.R_alloc | apply Kd.R_drewN | apply Kd.R_drew)); exact (Kd.R_mono (Kd.R_far (p := ⟨gb325, 4, none⟩) (Kd.R_far (p := ⟨gb325, 3, none⟩) (Kd.R_far (p := ⟨gb325, 2, none⟩) (Kd.R_far (p := ⟨gb325, 1, none⟩) (Kd.R_far (p := ⟨gb325, 0, none⟩) (Kd.R_types HO298.out BK325.out (by decide)) (fun _ hk => hk.2) (.int .i64 t313)) (fun _ hk => hk.2) (.slice Ao43 t314.length co43)) (fun _ hk => hk.2) (.slice Ao44 t317.length co44)) (fun _ hk => hk.2) (.int .i64 t320)) (fun _ hk => hk.2) (.slice Ao45 t321.length co45)) (fun _ h_ => h_.1))) hb); have n6_ := Aside0.mk (Kd.R_below (by (with_reducible repeat (first | apply Kd.R_alloc | apply Kd.R_drewN | apply Kd.R_drew)); exact (Kd.R_mono (Kd.R_far (p := ⟨gb325, 4, none⟩) (Kd.R_far (p := ⟨gb325, 3, none⟩) (Kd.R_far (p := ⟨gb325, 2, none⟩) (Kd.R_far (p := ⟨gb325, 1, none⟩) (Kd.R_far (p := ⟨gb325, 0, none⟩) (Kd.R_types HO304.out BK325.out (by decide)) (fun _ hk => hk.2) (.int .i64 t313)) (fun _ hk => hk.2) (.slice Ao43 t314.length co43)) (fun _ hk => hk.2) (.slice Ao44 t317.length co44)) (fun _ hk => hk.2) (.int .i64 t320)) (fun _ hk => hk.2) (.slice Ao45 t321.length co45)) (fun _ h_ => h_.1))) hb); have n7_ := Aside0.mk (Kd.R_below (by (with_reducible repeat (first | apply Kd.R_alloc | apply Kd.R_drewN | apply Kd.R_drew)); exact (Kd.R_mono (Kd.R_far (p := ⟨gb325, 4, none⟩) (Kd.R_far (p := ⟨gb325, 3, none⟩) (Kd.R_far (p := ⟨gb325, 2, none⟩) (Kd.R_far (p := ⟨gb325, 1, none⟩) (Kd.R_far (p := ⟨gb325, 0, none⟩) (Kd.R_types HO307.out BK325.out (by decide)) (fun _ hk => hk.2) (.int .i64 t313)) (fun _ hk => hk.2) (.slice Ao43 t314.length co43)) (fun _ hk => hk.2) (.slice Ao44 t317.length co44)) (fun _ hk => hk.2) (.int .i64 t320)) (fun _ hk => hk.2) (.slice Ao45 t321.length co45)) (fun _ h_ => h_.1))) hb); have n8_ := Aside0.mk (Kd.R_below (by (with_reducible repeat (first | apply Kd.R_alloc | apply Kd.R_drewN | apply Kd.R_drew)); exact (Kd.R_mono (Kd.R_far (p := ⟨gb325, 4, none⟩) (Kd.R_far (p := ⟨gb325, 3, none⟩) (Kd.R_far (p := ⟨gb325, 2, none⟩) (Kd.R_far (p := ⟨gb325, 1, none⟩) (Kd.R_far (p := ⟨gb325, 0, none⟩) (Kd.R_types HO311.out BK325.out (by decide)) (fun _ hk => hk.2) (.int .i64 t313)) (fun _ hk => hk.2) (.slice Ao43 t314.length co43)) (fun _ hk => hk.2) (.slice Ao44 t317.length co44)) (fun _ hk => hk.2) (.int .i64 t320)) (fun _ hk => hk.2) (.slice Ao45 t321.length co45)) (fun _ h_ => h_.1))) hb); have n9_ := Aside0.mk (Kd.R_below (by (with_reducible repeat (first | apply Kd.R_alloc | apply Kd.R_drewN | apply Kd.R_drew)); exact (Kd.R_mono (Kd.R_far (p := ⟨gb325, 4, none⟩) (Kd.R_far (p := ⟨gb325, 3, none⟩) (Kd.R_far (p := ⟨gb325, 2, none⟩) (Kd.R_far (p := ⟨gb325, 1, none⟩) (Kd.R_far (p := ⟨gb325, 0, none⟩) (Kd.R_types HO316.out BK325.out (by decide)) (fun _ hk => hk.2) (.int .i64 t313)) (fun _ hk => hk.2) (.slice Ao43 t314.length co43)) (fun _ hk => hk.2) (.slice Ao44 t317.length co44)) (fun _ hk => hk.2) (.int .i64 t320)) (fun _ hk => hk.2) (.slice Ao45 t321.length co45)) (fun _ h_ => h_.1))) hb); have n10_ := Aside0.mk (Kd.R_below (by (with_reducible repeat (first | apply Kd.R_alloc | apply Kd.R_drewN | apply Kd.R_drew)); exact (Kd.R_mono (Kd.R_far (p := ⟨gb325, 4, none⟩) (Kd.R_far (p := ⟨gb325, 3, none⟩) (Kd.R_far (p := ⟨gb325, 2, none⟩) (Kd.R_far (p := ⟨gb325, 1, none⟩) (Kd.R_far (p := ⟨gb325, 0, none⟩) (Kd.R_types HO319.out BK325.out (by decide)) (fun _ hk => hk.2) (.int .i64 t313)) (fun _ hk => hk.2) (.slice Ao43 t314.length co43)) (fun _ hk => hk.2) (.slice Ao44 t317.length co44)) (fun _ hk => hk.2) (.int .i64 t320)) (fun _ hk => hk.2) (.slice Ao45 t321.length co45)) (fun _ h_ => h_.1))) hb); have n11_ := Aside0.mk (Kd.R_below (by (with_reducible repeat (first | apply Kd.R_alloc | apply Kd.R_drewN | apply Kd.R_drew)); exact (Kd.R_mono (Kd.R_far (p := ⟨gb325, 4, none⟩) (Kd.R_far (p := ⟨gb325, 3, none⟩) (Kd.R_far (p := ⟨gb325, 2, none⟩) (Kd.R_far (p := ⟨gb325, 1, none⟩) (Kd.R_far (p := ⟨gb325, 0, none⟩) (Kd.R_types HO323.out BK325.out (by decide)) (fun _ hk => hk.2) (.int .i64 t313)) (fun _ hk => hk.2) (.slice Ao43 t314.length co43)) (fun _ hk => hk.2) (.slice Ao44 t317.length co44)) (fun _ hk => hk.2) (.int .i64 t320)) (fun _ hk => hk.2) (.slice Ao45 t321.length co45)) (fun _ h_ => h_.1))) hb); have n12_ := Aside0.mk (blk_below (g := gb275) (o := .cells #[.int .i64 a0_0, .slice A0_1 l0_1.length c0_1, .slice A0_2 l0_2.length c0_2, .int .i64 a0_3, .slice A0_4 l0_4.length c0_4] 27 (0, 0)) (by (with_reducible repeat (first | refine blk_drewN ?_ _ | refine blk_drew ?_ | refine blk_alloc ?_ _)); refine blk_far ?_ NB275_325.out _; (with_reducible repeat (first | refine blk_drewN ?_ _ | refine blk_drew ?_ | refine blk_alloc ?_ _)); refine blk_far ?_ NB275_325.out _; (with_reducible repeat (first | refine blk_drewN ?_ _ | refine blk_drew ?_ | refine blk_alloc ?_ _)); refine blk_far ?_ NB275_325.out _; (with_reducible repeat (first | refine blk_drewN ?_ _ | refine blk_drew ?_ | refine blk_alloc ?_ _)); refine blk_far ?_ NB275_325.out _; (with_reducible repeat (first | refine blk_drewN ?_ _ | refine blk_drew ?_ | refine blk_alloc ?_ _)); refine blk_far ?_ NB275_325.out _; (with_reducible repeat (first | refine blk_drewN ?_ _ | refine blk_drew ?_ | refine blk_alloc ?_ _)); exact BK275.out) hb); have n13_ := Aside0.mk (blk_below (g := gb300) (o := .cells #[.int .i64 t288, .slice Ao25 t289.length co25, .slice Ao26 t292.length co26, .int .i64 t295, .slice Ao27 t296.length co27] 31 (0, 0)) (by (with_reducible repeat (first | refine blk_drewN ?_ _ | refine blk_drew ?_ | refine blk_alloc ?_ _)); refine blk_far ?_ NB300_325.out _; (with_reducible repeat (first | refine blk_drewN ?_ _ | refine blk_drew ?_ | refine blk_alloc ?_ _)); refine blk_far ?_ NB300_325.out _; (with_reducible repeat (first | refine blk_drewN ?_ _ | refine blk_drew ?_ | refine blk_alloc ?_ _)); refine blk_far ?_ NB300_325.out _; (with_reducible repeat (first | refine blk_drewN ?_ _ | refine blk_drew ?_ | refine blk_alloc ?_ _)); refine blk_far ?_ NB300_325.out _; (with_reducible repeat (first | refine blk_drewN ?_ _ | refine blk_drew ?_ | refine blk_alloc ?_ _)); refine blk_far ?_ NB300_325.out _; (with_reducible repeat (first | refine blk_drewN ?_ _ | refine blk_drew ?_ | refine blk_alloc ?_ _)); exact BK300.out) hb); have n14_ := Aside0.mk (blk_below (g := gb312) (o := .cells #[.int .i64 t301, .slice Ao34 t302.length co34, .slice Ao35 t305.length co35, .int .i64 t308, .slice Ao36 t309.length co36] 31 (0, 0)) (by (with_reducible repeat (first | refine blk_drewN ?_ _ | refine blk_drew ?_ | refine blk_alloc ?_ _)); refine blk_far ?_ NB312_325.out _; (with_reducible repeat (first | refine blk_drewN ?_ _ | refine blk_drew ?_ | refine blk_alloc ?_ _)); refine blk_far ?_ NB312_325.out _; (with_reducible repeat (first | refine blk_drewN ?_ _ | refine blk_drew ?_ | refine blk_alloc ?_ _)); refine blk_far ?_ NB312_325.out _; (with_reducible repeat (first | refine blk_drewN ?_ _ | refine blk_drew ?_ | refine blk_alloc ?_ _)); refine blk_far ?_ NB312_325.out _; (with_reducible repeat (first | refine blk_drewN ?_ _ | refine blk_drew ?_ | refine blk_alloc ?_ _)); refine blk_far ?_ NB312_325.out _; (with_reducible repeat (first | refine blk_drewN ?_ _ | refine blk_drew ?_ | refine blk_alloc ?_ _)); exact BK312.out) hb); have n15_ := Aside0.mk (blk_below (g := gb325) (o := .cells #[.int .i64 t313, .slice Ao43 t314.length co43, .slice Ao44 t317.length co44, .int .i64 t320, .slice Ao45 t321.length co45] 31 (0, 0)) (by (with_reducible repeat (first | refine blk_drewN ?_ _ | refine blk_drew ?_ | refine blk_alloc ?_ _)); refine blk_put (cs := #[.int .i64 t313, .slice Ao43 t314.length co43, .slice Ao44 t317.length co44, .int .i64 t320, .slice none 0 0]) ?_ 4 _ rfl; (with_reducible repeat (first | refine blk_drewN ?_ _ | refine blk_drew ?_ | refine blk_alloc ?_ _)); refine blk_put (cs := #[.int .i64 t313, .slice Ao43 t314.length co43, .slice Ao44 t317.length co44, .int .i64 0, .slice none 0 0]) ?_ 3 _ rfl; (with_reducible repeat (first | refine blk_drewN ?_ _ | refine blk_drew ?_ | refine blk_alloc ?_ _)); refine blk_put (cs := #[.int .i64 t313, .slice Ao43 t314.length co43, .slice none 0 0, .int .i64 0, .slice none 0 0]) ?_ 2 _ rfl; (with_reducible repeat (first | refine blk_drewN ?_ _ | refine blk_drew ?_ | refine blk_alloc ?_ _)); refine blk_put (cs := #[.int .i64 t313, .slice none 0 0, .slice none 0 0, .int .i64 0, .slice none 0 0]) ?_ 1 _ rfl; (with_reducible repeat (first | refine blk_drewN ?_ _ | refine blk_drew ?_ | refine blk_alloc ?_ _)); refine blk_put (cs := #[.int .i64 0, .slice none 0 0, .slice none 0 0, .int .i64 0, .slice none 0 0]) ?_ 0 _ rfl; (with_reducible repeat (first | refine blk_drewN ?_ _ | refine blk_drew ?_ | refine blk_alloc ?_ _)); exact BK325.out) hb); have n16_ := Aside0.mk (below_step hb_ hb); clear HO280; clear HO283; clear HO287; clear HO291; clear HO294; clear HO298; clear HO304; clear HO307; clear HO311; clear HO316; clear HO319; clear HO323; clear BK275; clear BK300; clear BK312; clear BK325; clear HB; have HO280 := n0_; have HO283 := n1_; have HO287 := n2_; have HO291 := n3_; have HO294 := n4_; have HO298 := n5_; have HO304 := n6_; have HO307 := n7_; have HO311 := n8_; have HO316 := n9_; have HO319 := n10_; have HO323 := n11_; have BK275 := n12_; have BK300 := n13_; have BK312 := n14_; have BK325 := n15_; have HB := n16_; clear n0_ n1_ n2_ n3_ n4_ n5_ n6_ n7_ n8_ n9_ n10_ n11_ n12_ n13_ n14_ n15_ n16_; (try clear hb); (try clear hb2); (try clear hk); (try clear hi)))
        go_meet
        case rel => exact ⟨_, ((t324 != t299)), rs_, H', ⟨by first | omega | exact Nat.le_refl _⟩, ⟨by (with_reducible repeat (first | apply Kd.R_alloc | apply Kd.R_drewN | apply Kd.R_drew)); exact Kd.R_mono HO291.out (fun _ hk => ⟨hk.1.1.1.1.1.1, ⟨hk.1.1.1.2, ⟨hk.1.1.2, ⟨hk.1.2, hk.2⟩⟩⟩⟩)⟩, ⟨by (with_reducible repeat (first | apply Kd.R_alloc | apply Kd.R_drewN | apply Kd.R_drew)); exact Kd.R_mono HO294.out (fun _ hk => ⟨hk.1.1.1.1.1.1, ⟨hk.1.1.1.2, ⟨hk.1.1.2, ⟨hk.1.2, hk.2⟩⟩⟩⟩)⟩, ⟨by (with_reducible repeat (first | apply Kd.R_alloc | apply Kd.R_drewN | apply Kd.R_drew)); exact Kd.R_mono HO298.out (fun _ hk => ⟨hk.1.2, hk.2⟩)⟩, ⟨by (with_reducible repeat (first | apply Kd.R_alloc | apply Kd.R_drewN | apply Kd.R_drew)); exact Kd.R_mono HO304.out (fun _ hk => ⟨hk.1.1.1.2, ⟨hk.1.1.2, ⟨hk.1.1.1.1.1.1, ⟨hk.1.2, hk.2⟩⟩⟩⟩)⟩, ⟨by (with_reducible repeat (first | apply Kd.R_alloc | apply Kd.R_drewN | apply Kd.R_drew)); exact Kd.R_mono HO307.out (fun _ hk => ⟨hk.1.1.1.2, ⟨hk.1.1.2, ⟨hk.1.1.1.1.1.1, ⟨hk.1.2, hk.2⟩⟩⟩⟩)⟩, ⟨by (with_reducible repeat (first | apply Kd.R_alloc | apply Kd.R_drewN | apply Kd.R_drew)); exact Kd.R_mono HO311.out (fun _ hk => ⟨hk.1.2, hk.2⟩)⟩, ⟨by (with_reducible repeat (first | apply Kd.R_alloc | apply Kd.R_drewN | apply Kd.R_drew)); exact Kd.R_mono HO316.out (fun _ hk => ⟨hk.1.1.1.2, ⟨hk.1.1.2, ⟨hk.1.2, ⟨hk.2, hk.1.1.1.1.1.1⟩⟩⟩⟩)⟩, ⟨by (with_reducible repeat (first | apply Kd.R_alloc | apply Kd.R_drewN | apply Kd.R_drew)); exact Kd.R_mono HO319.out (fun _ hk => ⟨hk.1.1.1.2, ⟨hk.1.1.2, ⟨hk.1.2, ⟨hk.2, hk.1.1.1.1.1.1⟩⟩⟩⟩)⟩, ⟨by (with_reducible repeat (first | apply Kd.R_alloc | apply Kd.R_drewN | apply Kd.R_drew)); exact Kd.R_mono HO323.out (fun _ hk => ⟨hk.1.2, hk.2⟩)⟩, ⟨by (with_reducible repeat (first | refine blk_drewN ?_ _ | refine blk_drew ?_ | refine blk_alloc ?_ _)); exact BK275.out⟩, ⟨by (with_reducible repeat (first | refine blk_drewN ?_ _ | refine blk_drew ?_ | refine blk_alloc ?_ _)); exact BK300.out⟩, ⟨by (with_reducible repeat (first | refine blk_drewN ?_ _ | refine blk_drew ?_ | refine blk_alloc ?_ _)); exact BK312.out⟩, ⟨by (with_reducible repeat (first | refine blk_drewN ?_ _ | refine blk_drew ?_ | refine blk_alloc ?_ _)); exact BK325.out⟩, ⟨hb_⟩⟩
      · replace c47 := Bool.eq_false_iff.mpr c47
        subst c47
        have H1 : (laws_FnExactCelInput.j0 k a1 t299 t324 true a0_0 l0_1 l0_2 a0_3 l0_4 t288 t289 t292 t295 t296 t301 t302 t305 t308 t309 t313 t314 t317 t320 t321) = some r := by rw [if_neg (show ¬ (false = true) by decide)] at H; exact H
        clear H
        have H := H1
        clear H1
        exact absurd H (by rw [htrue.out]; cases k <;> simp [laws_FnExactCelInput.j0])
    case rest =>
      clear HC12
      try clear c2
      try clear p2
      try clear c3
      try clear c4
      try clear c4b0
      try clear c5
      try clear c6
      try clear c7
      try clear c8
      try clear c9
      try clear c23
      try clear c31
      try clear c32
      try clear c39
      try clear c40
      try clear c41
      try clear c47
      try clear c48
      try clear c49
      try clear c50
      try clear c52
      try clear c53
      try clear c56
      try clear c57
      try clear c58
      try clear c60
      try clear c61
      try clear hcz14_0
      try clear hcz14_1
      try clear hcz14_2
      try clear hcz14_3
      try clear hcz14_4
      try clear hcz16_0
      try clear hcz16_1
      try clear hcz16_2
      try clear hcz16_3
      try clear hcz16_4
      try clear hcz24_0
      try clear hcz24_1
      try clear hcz24_2
      try clear hcz24_3
      try clear hcz24_4
      try clear hcz28_0
      try clear hcz28_1
      try clear hcz28_2
      try clear hcz28_3
      try clear hcz28_4
      try clear hcz33_0
      try clear hcz33_1
      try clear hcz33_2
      try clear hcz33_3
      try clear hcz33_4
      try clear hcz42_0
      try clear hcz42_1
      try clear hcz42_2
      try clear hcz42_3
      try clear hcz42_4
      try clear hcz51_0
      try clear hcz51_1
      try clear hcz51_2
      try clear hcz51_3
      try clear hcz51_4
      try clear hcz54_0
      try clear hcz54_1
      try clear hcz54_2
      try clear hcz54_3
      try clear hcz54_4
      try clear hcz59_0
      try clear hcz59_1
      try clear hcz59_2
      try clear hcz59_3
      try clear hcz59_4
      try clear hcz62_0
      try clear hcz62_1
      try clear hcz62_2
      try clear hcz62_3
      try clear hcz62_4
      try clear hcz6_0
      try clear hcz6_1
      try clear hcz6_2
      try clear hcz6_3
      try clear hcz6_4
      try clear hfz14_0
      try clear hfz14_1
      try clear hfz14_2
      try clear hfz14_3
      try clear hfz14_4
      try clear hfz16_0
      try clear hfz16_1
      try clear hfz16_2
      try clear hfz16_3
      try clear hfz16_4
      try clear hfz24_0
      try clear hfz24_1
      try clear hfz24_2
      try clear hfz24_3
      try clear hfz24_4
      try clear hfz28_0
      try clear hfz28_1
      try clear hfz28_2
      try clear hfz28_3
      try clear hfz28_4
      try clear hfz33_0
      try clear hfz33_1
      try clear hfz33_2
      try clear hfz33_3
      try clear hfz33_4
      try clear hfz42_0
      try clear hfz42_1
      try clear hfz42_2
      try clear hfz42_3
      try clear hfz42_4
      try clear hfz51_0
      try clear hfz51_1
      try clear hfz51_2
      try clear hfz51_3
      try clear hfz51_4
      try clear hfz54_0
      try clear hfz54_1
      try clear hfz54_2
      try clear hfz54_3
      try clear hfz54_4
      try clear hfz59_0
      try clear hfz59_1
      try clear hfz59_2
      try clear hfz59_3
      try clear hfz59_4
      try clear hfz62_0
      try clear hfz62_1
      try clear hfz62_2
      try clear hfz62_3
      try clear hfz62_4
      try clear hfz6_0
      try clear hfz6_1
      try clear hfz6_2
      try clear hfz6_3
      try clear hfz6_4
      obtain ⟨kq, x44_11, rfl, HA, HJ11, HO_301001, HO_301002, HO_301004, HO_313001, HO_313002, HO_313004, HO_326001, HO_326002, HO_326004, BK275, BK300, BK312, BK325, HB⟩ := hcut
      cases kq with
      | zero => exact absurd HA.out (by simp [laws_FnExactCelInput.j0])
      | succ kj11 =>
        have H := HA.out
        clear HA
        simp only [laws_FnExactCelInput.j0] at H
        by_cases c64 : x44_11 = true
        · subst c64
          have H1 : (some false) = some r := by rw [if_pos rfl] at H; exact H
          clear H
          have H := H1
          clear H1
          exact absurd (Option.some.inj H) (by rw [htrue.out]; decide)
        · replace c64 := Bool.eq_false_iff.mpr c64
          subst c64
          have H1 : ((laws_toCelCell.f kj11 a0_0 l0_1 l0_2 a0_3 l0_4).bind fun bt327 => ((laws_eqCelCell.f kj11 t301 t302 t305 t308 t309 bt327.1 bt327.2.1 bt327.2.2.1 bt327.2.2.2.1 bt327.2.2.2.2).bind fun t338 => (if t338 = true then ((laws_markCelCell.f kj11 t301 t302 t305 t308 t309 1).bind fun bt339 => (if bt339.1 < 0 then (laws_FnExactCelInput.j1 kj11 a1 t299 true a0_0 l0_1 l0_2 a0_3 l0_4 t288 t289 t292 t295 t296 t313 t314 t317 t320 t321) else ((laws_eqCelCell.f kj11 t313 t314 t317 t320 t321 t288 t289 t292 t295 t296).bind fun t343 => (if t343 = true then (laws_FnExactCelInput.j1 kj11 a1 t299 (t324 != t299) a0_0 l0_1 l0_2 a0_3 l0_4 t288 t289 t292 t295 t296 t313 t314 t317 t320 t321) else (laws_FnExactCelInput.j1 kj11 a1 t299 true a0_0 l0_1 l0_2 a0_3 l0_4 t288 t289 t292 t295 t296 t313 t314 t317 t320 t321))))) else (some false)))) = some r := by rw [if_neg (show ¬ (false = true) by decide)] at H; exact H
          clear H
          have H := H1
          clear H1
          replace H := Option.bind_eq_some_iff.mp H
          obtain ⟨⟨t327, t328, t331, t334, t335⟩, A650, H⟩ := H
          replace H : ((laws_eqCelCell.f kj11 t301 t302 t305 t308 t309 t327 t328 t331 t334 t335).bind fun t338 => (if t338 = true then ((laws_markCelCell.f kj11 t301 t302 t305 t308 t309 1).bind fun bt339 => (if bt339.1 < 0 then (laws_FnExactCelInput.j1 kj11 a1 t299 true a0_0 l0_1 l0_2 a0_3 l0_4 t288 t289 t292 t295 t296 t313 t314 t317 t320 t321) else ((laws_eqCelCell.f kj11 t313 t314 t317 t320 t321 t288 t289 t292 t295 t296).bind fun t343 => (if t343 = true then (laws_FnExactCelInput.j1 kj11 a1 t299 (t324 != t299) a0_0 l0_1 l0_2 a0_3 l0_4 t288 t289 t292 t295 t296 t313 t314 t317 t320 t321) else (laws_FnExactCelInput.j1 kj11 a1 t299 true a0_0 l0_1 l0_2 a0_3 l0_4 t288 t289 t292 t295 t296 t313 t314 t317 t320 t321))))) else (some false))) = some r := H
          have A65 := Aside0.mk A650
          clear A650
          replace H := Option.bind_eq_some_iff.mp H
          obtain ⟨t338, A660, H⟩ := H
          replace H : (if t338 = true then ((laws_markCelCell.f kj11 t301 t302 t305 t308 t309 1).bind fun bt339 => (if bt339.1 < 0 then (laws_FnExactCelInput.j1 kj11 a1 t299 true a0_0 l0_1 l0_2 a0_3 l0_4 t288 t289 t292 t295 t296 t313 t314 t317 t320 t321) else ((laws_eqCelCell.f kj11 t313 t314 t317 t320 t321 t288 t289 t292 t295 t296).bind fun t343 => (if t343 = true then (laws_FnExactCelInput.j1 kj11 a1 t299 (t324 != t299) a0_0 l0_1 l0_2 a0_3 l0_4 t288 t289 t292 t295 t296 t313 t314 t317 t320 t321) else (laws_FnExactCelInput.j1 kj11 a1 t299 true a0_0 l0_1 l0_2 a0_3 l0_4 t288 t289 t292 t295 t296 t313 t314 t317 t320 t321))))) else (some false)) = some r := H
          have A66 := Aside0.mk A660
          clear A660
          by_cases c67 : t338 = true
          · subst c67
            have H1 : ((laws_markCelCell.f kj11 t301 t302 t305 t308 t309 1).bind fun bt339 => (if bt339.1 < 0 then (laws_FnExactCelInput.j1 kj11 a1 t299 true a0_0 l0_1 l0_2 a0_3 l0_4 t288 t289 t292 t295 t296 t313 t314 t317 t320 t321) else ((laws_eqCelCell.f kj11 t313 t314 t317 t320 t321 t288 t289 t292 t295 t296).bind fun t343 => (if t343 = true then (laws_FnExactCelInput.j1 kj11 a1 t299 (t324 != t299) a0_0 l0_1 l0_2 a0_3 l0_4 t288 t289 t292 t295 t296 t313 t314 t317 t320 t321) else (laws_FnExactCelInput.j1 kj11 a1 t299 true a0_0 l0_1 l0_2 a0_3 l0_4 t288 t289 t292 t295 t296 t313 t314 t317 t320 t321))))) = some r := by rw [if_pos rfl] at H; exact H
            clear H
            have H := H1
            clear H1
            replace H := Option.bind_eq_some_iff.mp H
            obtain ⟨⟨t339, t340, t341, t342⟩, A680, H⟩ := H
            replace H : (if t339 < 0 then (laws_FnExactCelInput.j1 kj11 a1 t299 true a0_0 l0_1 l0_2 a0_3 l0_4 t288 t289 t292 t295 t296 t313 t314 t317 t320 t321) else ((laws_eqCelCell.f kj11 t313 t314 t317 t320 t321 t288 t289 t292 t295 t296).bind fun t343 => (if t343 = true then (laws_FnExactCelInput.j1 kj11 a1 t299 (t324 != t299) a0_0 l0_1 l0_2 a0_3 l0_4 t288 t289 t292 t295 t296 t313 t314 t317 t320 t321) else (laws_FnExactCelInput.j1 kj11 a1 t299 true a0_0 l0_1 l0_2 a0_3 l0_4 t288 t289 t292 t295 t296 t313 t314 t317 t320 t321)))) = some r := H
            have A68 := Aside0.mk A680
            clear A680
            have HC69 := Aside0.mk H
            clear H
            try go_wp2
            have n0_ := Aside0.mk (Kd.R_drew HO_301001.out)
            have n1_ := Aside0.mk (Kd.R_drew HO_301002.out)
            have n2_ := Aside0.mk (Kd.R_drew HO_301004.out)
            have n3_ := Aside0.mk (Kd.R_drew HO_313001.out)
            have n4_ := Aside0.mk (Kd.R_drew HO_313002.out)
            have n5_ := Aside0.mk (Kd.R_drew HO_313004.out)
            have n6_ := Aside0.mk (Kd.R_drew HO_326001.out)
            have n7_ := Aside0.mk (Kd.R_drew HO_326002.out)
            have n8_ := Aside0.mk (Kd.R_drew HO_326004.out)
            have n9_ := Aside0.mk (blk_drew BK275.out)
            have n10_ := Aside0.mk (blk_drew BK300.out)
            have n11_ := Aside0.mk (blk_drew BK312.out)
            have n12_ := Aside0.mk (blk_drew BK325.out)
            have n13_ := Aside0.mk (below_drew1 HB.out)
            clear HO_301001
            clear HO_301002
            clear HO_301004
            clear HO_313001
            clear HO_313002
            clear HO_313004
            clear HO_326001
            clear HO_326002
            clear HO_326004
            clear BK275
            clear BK300
            clear BK312
            clear BK325
            clear HB
            have HO_301001 := n0_
            have HO_301002 := n1_
            have HO_301004 := n2_
            have HO_313001 := n3_
            have HO_313002 := n4_
            have HO_313004 := n5_
            have HO_326001 := n6_
            have HO_326002 := n7_
            have HO_326004 := n8_
            have BK275 := n9_
            have BK300 := n10_
            have BK312 := n11_
            have BK325 := n12_
            have HB := n13_
            clear n0_ n1_ n2_ n3_ n4_ n5_ n6_ n7_ n8_ n9_ n10_ n11_ n12_ n13_
            refine start_ (n := 5) (S := fun w' => w'.cell? ⟨gb312, 0, none⟩ = some (.int .i64 t301) ∧ w'.cell? ⟨gb312, 1, none⟩ = some (.slice Ao34 t302.length co34) ∧ w'.cell? ⟨gb312, 2, none⟩ = some (.slice Ao35 t305.length co35) ∧ w'.cell? ⟨gb312, 3, none⟩ = some (.int .i64 t308) ∧ w'.cell? ⟨gb312, 4, none⟩ = some (.slice Ao36 t309.length co36) ∧ w'.cell? ⟨gb275, 0, none⟩ = some (.int .i64 a0_0) ∧ w'.cell? ⟨gb275, 1, none⟩ = some (.slice A0_1 l0_1.length c0_1) ∧ w'.cell? ⟨gb275, 2, none⟩ = some (.slice A0_2 l0_2.length c0_2) ∧ w'.cell? ⟨gb275, 3, none⟩ = some (.int .i64 a0_3) ∧ w'.cell? ⟨gb275, 4, none⟩ = some (.slice A0_4 l0_4.length c0_4)) (ds := []) #[false, false, false, false, false] (by kernel_rfl) rfl rfl ⟨(blk_cell BK312.out 0).trans rfl, (blk_cell BK312.out 1).trans rfl, (blk_cell BK312.out 2).trans rfl, (blk_cell BK312.out 3).trans rfl, (blk_cell BK312.out 4).trans rfl, (blk_cell BK275.out 0).trans rfl, (blk_cell BK275.out 1).trans rfl, (blk_cell BK275.out 2).trans rfl, (blk_cell BK275.out 3).trans rfl, (blk_cell BK275.out 4).trans rfl⟩ (fun hHeld => ?_)
            generalize wc.drew = w70 at HO_301001 HO_301002 HO_301004 HO_313001 HO_313002 HO_313004 HO_326001 HO_326002 HO_326004 BK275 BK300 BK312 BK325 HB hHeld ⊢
            refine take_ (i := 0) (N := some 45) (v := ?_) (a' := ?_) #[true, false, false, false, false] rfl rfl (by kernel_rfl) (fun _ _ _ h => h) (Or.inl ⟨by rfl, ?_⟩) hHeld ?_ ?_
            rotate_left
            · rintro w' ⟨s0, s1, s2, s3, s4, s5, s6, s7, s8, s9⟩
              go_simp
              with_reducible rfl
            rotate_left
            · simp only [Act.put, List.setIfInBounds_toArray, List.set_cons_zero, List.set_cons_succ, i64_w, i32_w]
              rfl
            refine take_ (i := 1) (N := some 46) (v := ?_) (a' := ?_) #[true, true, false, false, false] rfl rfl (by kernel_rfl) (fun _ _ _ h => h) (Or.inl ⟨by rfl, ?_⟩) hHeld ?_ ?_
            rotate_left
            · rintro w' ⟨s0, s1, s2, s3, s4, s5, s6, s7, s8, s9⟩
              go_simp
              with_reducible rfl
            rotate_left
            · simp only [Act.put, List.setIfInBounds_toArray, List.set_cons_zero, List.set_cons_succ, i64_w, i32_w]
              rfl
            refine one_ (i := 2) (N := some 47) #[true, true, true, false, false] rfl rfl (by kernel_rfl) (by decide) (fun K hK => ?_)
            refine goes_ Try.func7 (by kernel_rfl) rfl #[.agg #[.int .i64 a0_0, .slice A0_1 l0_1.length c0_1, .slice A0_2 l0_2.length c0_2, .int .i64 a0_3, .slice A0_4 l0_4.length c0_4]] (by rfl) rfl rfl ml_ ?_
            with_reducible refine (laws_toCelCell.calls kj11 a0_0 _ _ l0_1 _ _ l0_2 a0_3 _ _ l0_4 t327 t328 t331 t334 t335 _ ?side1 ?side2 ?side3 ?side4 ?side5 ?side6 A65.out).mono ?_
            (case side1 => repeat (first | exact (Kd.C_below HR0_1.out HB.out) | (with_reducible refine Kd.C_alloc ?_ _) | (with_reducible refine Kd.C_drewN ?_ _) | (with_reducible refine Kd.C_drew ?_)))
            (case side2 => exact HC0_1.out)
            (case side3 => repeat (first | exact (Kd.C_below HR0_2.out HB.out) | (with_reducible refine Kd.C_alloc ?_ _) | (with_reducible refine Kd.C_drewN ?_ _) | (with_reducible refine Kd.C_drew ?_)))
            (case side4 => exact HC0_2.out)
            (case side5 => repeat (first | exact (Kd.C_below HR0_4.out HB.out) | (with_reducible refine Kd.C_alloc ?_ _) | (with_reducible refine Kd.C_drewN ?_ _) | (with_reducible refine Kd.C_drew ?_)))
            (case side6 => exact HC0_4.out)
            rintro e w71 ⟨v329, v332, v336, rfl, ho0, ho1, ho2, hb⟩
            refine ⟨_, rfl, ?_⟩
            have n0_ := Aside0.mk (Kd.R_mono (Kd.R_told (Kd.R_told (Kd.R_old (by (with_reducible repeat (first | apply Kd.R_alloc | apply Kd.R_drewN | apply Kd.R_drew)); exact HO_301001.out) hb) (Kd.R_base ho0)) (Kd.R_base ho1)) (fun _ h_ => h_.1))
            have n1_ := Aside0.mk (Kd.R_mono (Kd.R_told (Kd.R_told (Kd.R_old (by (with_reducible repeat (first | apply Kd.R_alloc | apply Kd.R_drewN | apply Kd.R_drew)); exact HO_301002.out) hb) (Kd.R_base ho0)) (Kd.R_base ho1)) (fun _ h_ => h_.1))
            have n2_ := Aside0.mk (Kd.R_elder' (by (with_reducible repeat (first | apply Kd.R_alloc | apply Kd.R_drewN | apply Kd.R_drew)); exact HO_301004.out) (Kd.R_base ho2) hb)
            have n3_ := Aside0.mk (Kd.R_mono (Kd.R_told (Kd.R_told (Kd.R_old (by (with_reducible repeat (first | apply Kd.R_alloc | apply Kd.R_drewN | apply Kd.R_drew)); exact HO_313001.out) hb) (Kd.R_base ho0)) (Kd.R_base ho1)) (fun _ h_ => h_.1))
            have n4_ := Aside0.mk (Kd.R_mono (Kd.R_told (Kd.R_told (Kd.R_old (by (with_reducible repeat (first | apply Kd.R_alloc | apply Kd.R_drewN | apply Kd.R_drew)); exact HO_313002.out) hb) (Kd.R_base ho0)) (Kd.R_base ho1)) (fun _ h_ => h_.1))
            have n5_ := Aside0.mk (Kd.R_elder' (by (with_reducible repeat (first | apply Kd.R_alloc | apply Kd.R_drewN | apply Kd.R_drew)); exact HO_313004.out) (Kd.R_base ho2) hb)
            have n6_ := Aside0.mk (Kd.R_mono (Kd.R_told (Kd.R_told (Kd.R_old (by (with_reducible repeat (first | apply Kd.R_alloc | apply Kd.R_drewN | apply Kd.R_drew)); exact HO_326001.out) hb) (Kd.R_base ho0)) (Kd.R_base ho1)) (fun _ h_ => h_.1))
            have n7_ := Aside0.mk (Kd.R_mono (Kd.R_told (Kd.R_told (Kd.R_old (by (with_reducible repeat (first | apply Kd.R_alloc | apply Kd.R_drewN | apply Kd.R_drew)); exact HO_326002.out) hb) (Kd.R_base ho0)) (Kd.R_base ho1)) (fun _ h_ => h_.1))
            have n8_ := Aside0.mk (Kd.R_elder' (by (with_reducible repeat (first | apply Kd.R_alloc | apply Kd.R_drewN | apply Kd.R_drew)); exact HO_326004.out) (Kd.R_base ho2) hb)
            have n9_ := Aside0.mk (Kd.R_lower (Kd.R_new' (Kd.R_new' (Kd.R_new' (Kd.R_new' (Kd.R_new' (Kd.R_new' ho0 (Kd.R_lt (by (with_reducible repeat (first | apply Kd.R_alloc | apply Kd.R_drewN | apply Kd.R_drew)); exact HO_301001.out))) (Kd.R_lt (by (with_reducible repeat (first | apply Kd.R_alloc | apply Kd.R_drewN | apply Kd.R_drew)); exact HO_301002.out))) (Kd.R_lt (by (with_reducible repeat (first | apply Kd.R_alloc | apply Kd.R_drewN | apply Kd.R_drew)); exact HO_313001.out))) (Kd.R_lt (by (with_reducible repeat (first | apply Kd.R_alloc | apply Kd.R_drewN | apply Kd.R_drew)); exact HO_313002.out))) (Kd.R_lt (by (with_reducible repeat (first | apply Kd.R_alloc | apply Kd.R_drewN | apply Kd.R_drew)); exact HO_326001.out))) (Kd.R_lt (by (with_reducible repeat (first | apply Kd.R_alloc | apply Kd.R_drewN | apply Kd.R_drew)); exact HO_326002.out))) (below_size hb_))
            have n10_ := Aside0.mk (Kd.R_lower (Kd.R_new' (Kd.R_new' (Kd.R_new' (Kd.R_new' (Kd.R_new' (Kd.R_new' ho1 (Kd.R_lt (by (with_reducible repeat (first | apply Kd.R_alloc | apply Kd.R_drewN | apply Kd.R_drew)); exact HO_301001.out))) (Kd.R_lt (by (with_reducible repeat (first | apply Kd.R_alloc | apply Kd.R_drewN | apply Kd.R_drew)); exact HO_301002.out))) (Kd.R_lt (by (with_reducible repeat (first | apply Kd.R_alloc | apply Kd.R_drewN | apply Kd.R_drew)); exact HO_313001.out))) (Kd.R_lt (by (with_reducible repeat (first | apply Kd.R_alloc | apply Kd.R_drewN | apply Kd.R_drew)); exact HO_313002.out))) (Kd.R_lt (by (with_reducible repeat (first | apply Kd.R_alloc | apply Kd.R_drewN | apply Kd.R_drew)); exact HO_326001.out))) (Kd.R_lt (by (with_reducible repeat (first | apply Kd.R_alloc | apply Kd.R_drewN | apply Kd.R_drew)); exact HO_326002.out))) (below_size hb_))
            have n11_ := Aside0.mk (Kd.R_lower (Kd.R_new' (Kd.R_new' (Kd.R_new' ho2 (Kd.R_lt (by (with_reducible repeat (first | apply Kd.R_alloc | apply Kd.R_drewN | apply Kd.R_drew)); exact HO_301004.out))) (Kd.R_lt (by (with_reducible repeat (first | apply Kd.R_alloc | apply Kd.R_drewN | apply Kd.R_drew)); exact HO_313004.out))) (Kd.R_lt (by (with_reducible repeat (first | apply Kd.R_alloc | apply Kd.R_drewN | apply Kd.R_drew)); exact HO_326004.out))) (below_size hb_))
            have n12_ := Aside0.mk (blk_below (g := gb275) (o := .cells #[.int .i64 a0_0, .slice A0_1 l0_1.length c0_1, .slice A0_2 l0_2.length c0_2, .int .i64 a0_3, .slice A0_4 l0_4.length c0_4] 27 (0, 0)) bk_ hb)
            have n13_ := Aside0.mk (blk_below (g := gb300) (o := .cells #[.int .i64 t288, .slice Ao25 t289.length co25, .slice Ao26 t292.length co26, .int .i64 t295, .slice Ao27 t296.length co27] 31 (0, 0)) bk_ hb)
            have n14_ := Aside0.mk (blk_below (g := gb312) (o := .cells #[.int .i64 t301, .slice Ao34 t302.length co34, .slice Ao35 t305.length co35, .int .i64 t308, .slice Ao36 t309.length co36] 31 (0, 0)) bk_ hb)
            have n15_ := Aside0.mk (blk_below (g := gb325) (o := .cells #[.int .i64 t313, .slice Ao43 t314.length co43, .slice Ao44 t317.length co44, .int .i64 t320, .slice Ao45 t321.length co45] 31 (0, 0)) bk_ hb)
            have n16_ := Aside0.mk (below_step hb_ hb)
            clear HO_301001
            clear HO_301002
            clear HO_301004
            clear HO_313001
            clear HO_313002
            clear HO_313004
            clear HO_326001
            clear HO_326002
            clear HO_326004
            clear BK275
            clear BK300
            clear BK312
            clear BK325
            clear HB
            have HO_301001 := n0_
            have HO_301002 := n1_
            have HO_301004 := n2_
            have HO_313001 := n3_
            have HO_313002 := n4_
            have HO_313004 := n5_
            have HO_326001 := n6_
            have HO_326002 := n7_
            have HO_326004 := n8_
            have HO330 := n9_
            have HO333 := n10_
            have HO337 := n11_
            have BK275 := n12_
            have BK300 := n13_
            have BK312 := n14_
            have BK325 := n15_
            have HB := n16_
            clear n0_ n1_ n2_ n3_ n4_ n5_ n6_ n7_ n8_ n9_ n10_ n11_ n12_ n13_ n14_ n15_ n16_
            (try clear hb)
            (try clear hb2)
            (try clear hk)
            (try clear hi)
            (try clear ho0)
            (try clear ho1)
            (try clear ho2)
            obtain ⟨Ao72, co72, eo72⟩ := Kd.R_slice HO330.out
            (first | subst eo72 | (injection eo72 with f1_ f2_ f3_; have f4_ := f1_.symm; have f5_ := f3_.symm; clear f1_ f2_ f3_; subst f4_; subst f5_))
            obtain ⟨Ao73, co73, eo73⟩ := Kd.R_slice HO333.out
            (first | subst eo73 | (injection eo73 with f1_ f2_ f3_; have f4_ := f1_.symm; have f5_ := f3_.symm; clear f1_ f2_ f3_; subst f4_; subst f5_))
            obtain ⟨Ao74, co74, eo74⟩ := Kd.R_slice HO337.out
            (first | subst eo74 | (injection eo74 with f1_ f2_ f3_; have f4_ := f1_.symm; have f5_ := f3_.symm; clear f1_ f2_ f3_; subst f4_; subst f5_))
            refine hK.out _ _ ⟨(blk_cell BK312.out 0).trans rfl, (blk_cell BK312.out 1).trans rfl, (blk_cell BK312.out 2).trans rfl, (blk_cell BK312.out 3).trans rfl, (blk_cell BK312.out 4).trans rfl, (blk_cell BK275.out 0).trans rfl, (blk_cell BK275.out 1).trans rfl, (blk_cell BK275.out 2).trans rfl, (blk_cell BK275.out 3).trans rfl, (blk_cell BK275.out 4).trans rfl⟩ (fun hHeld => ?_)
            clear hK K
            refine norm_ (a' := ?_) ?_ ?_
            rotate_left
            · show Act.put _ (some 47) _ = _
              simp only [Act.put, List.setIfInBounds_toArray, List.set_cons_zero, List.set_cons_succ, i64_w, i32_w]
              rfl
            refine one_ (i := 3) (N := some 48) #[true, true, true, true, false] rfl rfl (by kernel_rfl) (by decide) (fun K hK => ?_)
            refine goes_ Try.func9 (by kernel_rfl) rfl #[.agg #[.int .i64 t301, .slice Ao34 t302.length co34, .slice Ao35 t305.length co35, .int .i64 t308, .slice Ao36 t309.length co36], .agg #[.int .i64 t327, .slice Ao72 t328.length co72, .slice Ao73 t331.length co73, .int .i64 t334, .slice Ao74 t335.length co74]] (by rfl) rfl rfl ml_ ?_
            with_reducible refine (laws_eqCelCell.calls kj11 t301 _ _ t302 _ _ t305 t308 _ _ t309 t327 _ _ t328 _ _ t331 t334 _ _ t335 true _ ?side1 ?side2 ?side3 ?side4 ?side5 ?side6 ?side7 ?side8 ?side9 ?side10 ?side11 ?side12 A66.out).mono ?_
            (case side1 => repeat (first | exact (Kd.R_reads' HO_313001.out).2.2 | (with_reducible refine Kd.C_alloc ?_ _) | (with_reducible refine Kd.C_drewN ?_ _) | (with_reducible refine Kd.C_drew ?_)))
            (case side2 => exact (Kd.R_reads' HO_313001.out).2.1)
            (case side3 => repeat (first | exact (Kd.R_reads' HO_313002.out).2.2 | (with_reducible refine Kd.C_alloc ?_ _) | (with_reducible refine Kd.C_drewN ?_ _) | (with_reducible refine Kd.C_drew ?_)))
            (case side4 => exact (Kd.R_reads' HO_313002.out).2.1)
            (case side5 => repeat (first | exact (Kd.R_reads' HO_313004.out).2.2 | (with_reducible refine Kd.C_alloc ?_ _) | (with_reducible refine Kd.C_drewN ?_ _) | (with_reducible refine Kd.C_drew ?_)))
            (case side6 => exact (Kd.R_reads' HO_313004.out).2.1)
            (case side7 => repeat (first | exact (Kd.R_reads' HO330.out).2.2 | (with_reducible refine Kd.C_alloc ?_ _) | (with_reducible refine Kd.C_drewN ?_ _) | (with_reducible refine Kd.C_drew ?_)))
            (case side8 => exact (Kd.R_reads' HO330.out).2.1)
            (case side9 => repeat (first | exact (Kd.R_reads' HO333.out).2.2 | (with_reducible refine Kd.C_alloc ?_ _) | (with_reducible refine Kd.C_drewN ?_ _) | (with_reducible refine Kd.C_drew ?_)))
            (case side10 => exact (Kd.R_reads' HO333.out).2.1)
            (case side11 => repeat (first | exact (Kd.R_reads' HO337.out).2.2 | (with_reducible refine Kd.C_alloc ?_ _) | (with_reducible refine Kd.C_drewN ?_ _) | (with_reducible refine Kd.C_drew ?_)))
            (case side12 => exact (Kd.R_reads' HO337.out).2.1)
            rintro e w75 ⟨rfl, hb⟩
            refine ⟨_, rfl, ?_⟩
            have n0_ := Aside0.mk (Kd.R_below (by (with_reducible repeat (first | apply Kd.R_alloc | apply Kd.R_drewN | apply Kd.R_drew)); exact HO_301001.out) hb)
            have n1_ := Aside0.mk (Kd.R_below (by (with_reducible repeat (first | apply Kd.R_alloc | apply Kd.R_drewN | apply Kd.R_drew)); exact HO_301002.out) hb)
            have n2_ := Aside0.mk (Kd.R_below (by (with_reducible repeat (first | apply Kd.R_alloc | apply Kd.R_drewN | apply Kd.R_drew)); exact HO_301004.out) hb)
            have n3_ := Aside0.mk (Kd.R_below (by (with_reducible repeat (first | apply Kd.R_alloc | apply Kd.R_drewN | apply Kd.R_drew)); exact HO_313001.out) hb)
            have n4_ := Aside0.mk (Kd.R_below (by (with_reducible repeat (first | apply Kd.R_alloc | apply Kd.R_drewN | apply Kd.R_drew)); exact HO_313002.out) hb)
            have n5_ := Aside0.mk (Kd.R_below (by (with_reducible repeat (first | apply Kd.R_alloc | apply Kd.R_drewN | apply Kd.R_drew)); exact HO_313004.out) hb)
            have n6_ := Aside0.mk (Kd.R_below (by (with_reducible repeat (first | apply Kd.R_alloc | apply Kd.R_drewN | apply Kd.R_drew)); exact HO_326001.out) hb)
            have n7_ := Aside0.mk (Kd.R_below (by (with_reducible repeat (first | apply Kd.R_alloc | apply Kd.R_drewN | apply Kd.R_drew)); exact HO_326002.out) hb)
            have n8_ := Aside0.mk (Kd.R_below (by (with_reducible repeat (first | apply Kd.R_alloc | apply Kd.R_drewN | apply Kd.R_drew)); exact HO_326004.out) hb)
            have n9_ := Aside0.mk (Kd.R_below (by (with_reducible repeat (first | apply Kd.R_alloc | apply Kd.R_drewN | apply Kd.R_drew)); exact HO330.out) hb)
            have n10_ := Aside0.mk (Kd.R_below (by (with_reducible repeat (first | apply Kd.R_alloc | apply Kd.R_drewN | apply Kd.R_drew)); exact HO333.out) hb)
            have n11_ := Aside0.mk (Kd.R_below (by (with_reducible repeat (first | apply Kd.R_alloc | apply Kd.R_drewN | apply Kd.R_drew)); exact HO337.out) hb)
            have n12_ := Aside0.mk (blk_below (g := gb275) (o := .cells #[.int .i64 a0_0, .slice A0_1 l0_1.length c0_1, .slice A0_2 l0_2.length c0_2, .int .i64 a0_3, .slice A0_4 l0_4.length c0_4] 27 (0, 0)) bk_ hb)
            have n13_ := Aside0.mk (blk_below (g := gb300) (o := .cells #[.int .i64 t288, .slice Ao25 t289.length co25, .slice Ao26 t292.length co26, .int .i64 t295, .slice Ao27 t296.length co27] 31 (0, 0)) bk_ hb)
            have n14_ := Aside0.mk (blk_below (g := gb312) (o := .cells #[.int .i64 t301, .slice Ao34 t302.length co34, .slice Ao35 t305.length co35, .int .i64 t308, .slice Ao36 t309.length co36] 31 (0, 0)) bk_ hb)
            have n15_ := Aside0.mk (blk_below (g := gb325) (o := .cells #[.int .i64 t313, .slice Ao43 t314.length co43, .slice Ao44 t317.length co44, .int .i64 t320, .slice Ao45 t321.length co45] 31 (0, 0)) bk_ hb)
            have n16_ := Aside0.mk (below_step hb_ hb)
            clear HO_301001
            clear HO_301002
            clear HO_301004
            clear HO_313001
            clear HO_313002
            clear HO_313004
            clear HO_326001
            clear HO_326002
            clear HO_326004
            clear HO330
            clear HO333
            clear HO337
            clear BK275
            clear BK300
            clear BK312
            clear BK325
            clear HB
            have HO_301001 := n0_
            have HO_301002 := n1_
            have HO_301004 := n2_
            have HO_313001 := n3_
            have HO_313002 := n4_
            have HO_313004 := n5_
            have HO_326001 := n6_
            have HO_326002 := n7_
            have HO_326004 := n8_
            have HO330 := n9_
            have HO333 := n10_
            have HO337 := n11_
            have BK275 := n12_
            have BK300 := n13_
            have BK312 := n14_
            have BK325 := n15_
            have HB := n16_
            clear n0_ n1_ n2_ n3_ n4_ n5_ n6_ n7_ n8_ n9_ n10_ n11_ n12_ n13_ n14_ n15_ n16_
            (try clear hb)
            (try clear hb2)
            (try clear hk)
            (try clear hi)
            refine hK.out _ _ ⟨(blk_cell BK312.out 0).trans rfl, (blk_cell BK312.out 1).trans rfl, (blk_cell BK312.out 2).trans rfl, (blk_cell BK312.out 3).trans rfl, (blk_cell BK312.out 4).trans rfl, (blk_cell BK275.out 0).trans rfl, (blk_cell BK275.out 1).trans rfl, (blk_cell BK275.out 2).trans rfl, (blk_cell BK275.out 3).trans rfl, (blk_cell BK275.out 4).trans rfl⟩ (fun hHeld => ?_)
            clear hK K
            refine norm_ (a' := ?_) ?_ ?_
            rotate_left
            · show Act.put _ (some 48) _ = _
              simp only [Act.put, List.setIfInBounds_toArray, List.set_cons_zero, List.set_cons_succ, i64_w, i32_w]
              rfl
            refine pure_ (i := 4) (N := some 49) (v := ?_) (a' := ?_) #[true, true, true, true, true] rfl rfl (by kernel_rfl) (fun _ _ _ h => h) (Or.inl ⟨by rfl, ?_⟩) ?_ ?_
            rotate_left
            · intro w'
              go_simp
              with_reducible rfl
            rotate_left
            · simp only [Act.put, List.setIfInBounds_toArray, List.set_cons_zero, List.set_cons_succ, i64_w, i32_w]
              rfl
            refine done_ (by kernel_rfl) ?_
            have hnb76 := NB312_275.out
            have hnc76 := NB275_312.out
            have hnb77 := NB312_300.out
            have hnc77 := NB300_312.out
            have hnb78 := NB312_325.out
            have hnc78 := NB325_312.out
            have hcz79_0 : w75.cell? ⟨gb312, 0, none⟩ = some (.int .i64 t301) := (blk_cell BK312.out 0).trans rfl
            have hcz79_1 : w75.cell? ⟨gb312, 1, none⟩ = some (.slice Ao34 t302.length co34) := (blk_cell BK312.out 1).trans rfl
            have hcz79_2 : w75.cell? ⟨gb312, 2, none⟩ = some (.slice Ao35 t305.length co35) := (blk_cell BK312.out 2).trans rfl
            have hcz79_3 : w75.cell? ⟨gb312, 3, none⟩ = some (.int .i64 t308) := (blk_cell BK312.out 3).trans rfl
            have hcz79_4 : w75.cell? ⟨gb312, 4, none⟩ = some (.slice Ao36 t309.length co36) := (blk_cell BK312.out 4).trans rfl
            have hfz79_0 := blk_frozen BK312.out 0
            have hfz79_1 := blk_frozen BK312.out 1
            have hfz79_2 := blk_frozen BK312.out 2
            have hfz79_3 := blk_frozen BK312.out 3
            have hfz79_4 := blk_frozen BK312.out 4
            go_upto_region 14 with (first | ((with_reducible refine gate_callee (f := 10) rfl ?_); refine goesL_ (some 52) rfl rfl Try.func10 (by kernel_rfl) rfl #[.agg #[.int .i64 t301, .slice Ao34 t302.length co34, .slice Ao35 t305.length co35, .int .i64 t308, .slice Ao36 t309.length co36], .int .i64 1] rfl ml_ ?_; (with_reducible refine (laws_markCelCell.calls kj11 t301 (fun k_ => some k_ = (.slice Ao34 t302.length co34 : Value).ownBlock) (.slice Ao34 t302.length co34) t302 (fun k_ => some k_ = (.slice Ao35 t305.length co35 : Value).ownBlock) (.slice Ao35 t305.length co35) t305 t308 (fun k_ => some k_ = (.slice Ao36 t309.length co36 : Value).ownBlock) (.slice Ao36 t309.length co36) t309 1 t339 t340 t341 t342 w _ ?side1 ?side2 ?side3 ?side4 ?side5 ?side6 A68.out).mono ?_); (case side1 => repeat (first | (with_reducible first | exact HB.out | apply below_alloc | apply pw_below_drewN | apply below_drew1 | refine below_set ?_ GE275.out | refine below_set ?_ GE300.out | refine below_set ?_ GE312.out | refine below_set ?_ GE325.out) | exact HB.out)); (case side2 => exact Kd.R_tight rfl HO_313001.out); (case side3 => exact fun k_ e_ => (HO_313001.out.1 k_ e_.symm).1.1.2.2.1); (case side4 => exact Kd.R_tight rfl HO_313002.out); (case side5 => exact fun k_ e_ => (HO_313002.out.1 k_ e_.symm).1.1.2.2.1); (case side6 => exact Kd.R_tight rfl HO_313004.out); rintro e w80 ⟨rfl, hy0, hy1, hy2, hb, hkp⟩; refine ⟨_, rfl, ?_⟩; have n0_ := Aside0.mk (Kd.R_mono (ok' := fun k_ => some k_ ≠ (.slice Ao26 t292.length co26 : Value).ownBlock ∧ some k_ ≠ (.slice Ao34 t302.length co34 : Value).ownBlock ∧ some k_ ≠ (.slice Ao35 t305.length co35 : Value).ownBlock ∧ some k_ ≠ (.slice Ao43 t314.length co43 : Value).ownBlock ∧ some k_ ≠ (.slice Ao44 t317.length co44 : Value).ownBlock ∧ some k_ ≠ (.slice Ao72 t328.length co72 : Value).ownBlock ∧ some k_ ≠ (.slice Ao73 t331.length co73 : Value).ownBlock) (Kd.R_keptB ((Kd.R_apart' HO_301001.out (Kd.R_typed HO_313004.out) (by decide))) hkp (fun k_ hk_ hs_ => Or.elim hs_ (fun e_ => (hk_.1.1.1.2.1) e_) (fun e_ => Or.elim e_ (fun e_ => (hk_.1.1.1.2.2.1) e_) (fun e_ => (hk_.2) e_)))) (fun k_ hk_ => ⟨hk_.1.1.1.1.1, hk_.1.1.1.1.2.1, hk_.1.1.1.1.2.2.1, hk_.1.1.1.1.2.2.2.1, hk_.1.1.1.1.2.2.2.2, hk_.1.1.1.2, hk_.1.1.2⟩)); have n1_ := Aside0.mk (Kd.R_mono (ok' := fun k_ => some k_ ≠ (.slice Ao25 t289.length co25 : Value).ownBlock ∧ some k_ ≠ (.slice Ao34 t302.length co34 : Value).ownBlock ∧ some k_ ≠ (.slice Ao35 t305.length co35 : Value).ownBlock ∧ some k_ ≠ (.slice Ao43 t314.length co43 : Value).ownBlock ∧ some k_ ≠ (.slice Ao44 t317.length co44 : Value).ownBlock ∧ some k_ ≠ (.slice Ao72 t328.length co72 : Value).ownBlock ∧ some k_ ≠ (.slice Ao73 t331.length co73 : Value).ownBlock) (Kd.R_keptB ((Kd.R_apart' HO_301002.out (Kd.R_typed HO_313004.out) (by decide))) hkp (fun k_ hk_ hs_ => Or.elim hs_ (fun e_ => (hk_.1.1.1.2.1) e_) (fun e_ => Or.elim e_ (fun e_ => (hk_.1.1.1.2.2.1) e_) (fun e_ => (hk_.2) e_)))) (fun k_ hk_ => ⟨hk_.1.1.1.1.1, hk_.1.1.1.1.2.1, hk_.1.1.1.1.2.2.1, hk_.1.1.1.1.2.2.2.1, hk_.1.1.1.1.2.2.2.2, hk_.1.1.1.2, hk_.1.1.2⟩)); have n2_ := Aside0.mk (Kd.R_mono (ok' := fun k_ => some k_ ≠ (.slice Ao36 t309.length co36 : Value).ownBlock ∧ some k_ ≠ (.slice Ao45 t321.length co45 : Value).ownBlock ∧ some k_ ≠ (.slice Ao74 t335.length co74 : Value).ownBlock) (Kd.R_keptB ((Kd.R_apart' (Kd.R_apart' HO_301004.out (Kd.R_typed HO_313001.out) (by decide)) (Kd.R_typed HO_313002.out) (by decide))) hkp (fun k_ hk_ hs_ => Or.elim hs_ (fun e_ => (hk_.1.2) e_) (fun e_ => Or.elim e_ (fun e_ => (hk_.2) e_) (fun e_ => (hk_.1.1.1.1) e_)))) (fun k_ hk_ => ⟨hk_.1.1.1.1.1, hk_.1.1.1.1.2, hk_.1.1.1.2⟩)); have n3_ := Aside0.mk (Kd.R_reok rfl hy0 (fun k_ e_ => HO_313001.out.1 k_ e_)); have n4_ := Aside0.mk (Kd.R_reok rfl hy1 (fun k_ e_ => HO_313002.out.1 k_ e_)); have n5_ := Aside0.mk (Kd.R_reok rfl hy2 (fun k_ e_ => HO_313004.out.1 k_ e_)); have n6_ := Aside0.mk (Kd.R_mono (ok' := fun k_ => some k_ ≠ (.slice Ao25 t289.length co25 : Value).ownBlock ∧ some k_ ≠ (.slice Ao26 t292.length co26 : Value).ownBlock ∧ some k_ ≠ (.slice Ao34 t302.length co34 : Value).ownBlock ∧ some k_ ≠ (.slice Ao35 t305.length co35 : Value).ownBlock ∧ some k_ ≠ (.slice Ao44 t317.length co44 : Value).ownBlock ∧ some k_ ≠ (.slice Ao72 t328.length co72 : Value).ownBlock ∧ some k_ ≠ (.slice Ao73 t331.length co73 : Value).ownBlock) (Kd.R_keptB ((Kd.R_apart' HO_326001.out (Kd.R_typed HO_313004.out) (by decide))) hkp (fun k_ hk_ hs_ => Or.elim hs_ (fun e_ => (hk_.1.1.1.2.2.1) e_) (fun e_ => Or.elim e_ (fun e_ => (hk_.1.1.1.2.2.2.1) e_) (fun e_ => (hk_.2) e_)))) (fun k_ hk_ => ⟨hk_.1.1.1.1.1, hk_.1.1.1.1.2.1, hk_.1.1.1.1.2.2.1, hk_.1.1.1.1.2.2.2.1, hk_.1.1.1.1.2.2.2.2, hk_.1.1.1.2, hk_.1.1.2⟩)); have n7_ := Aside0.mk (Kd.R_mono (ok' := fun k_ => some k_ ≠ (.slice Ao25 t289.length co25 : Value).ownBlock ∧ some k_ ≠ (.slice Ao26 t292.length co26 : Value).ownBlock ∧ some k_ ≠ (.slice Ao34 t302.length co34 : Value).ownBlock ∧ some k_ ≠ (.slice Ao35 t305.length co35 : Value).ownBlock ∧ some k_ ≠ (.slice Ao43 t314.length co43 : Value).ownBlock ∧ some k_ ≠ (.slice Ao72 t328.length co72 : Value).ownBlock ∧ some k_ ≠ (.slice Ao73 t331.length co73 : Value).ownBlock) (Kd.R_keptB ((Kd.R_apart' HO_326002.out (Kd.R_typed HO_313004.out) (by decide))) hkp (fun k_ hk_ hs_ => Or.elim hs_ (fun e_ => (hk_.1.1.1.2.2.1) e_) (fun e_ => Or.elim e_ (fun e_ => (hk_.1.1.1.2.2.2.1) e_) (fun e_ => (hk_.2) e_)))) (fun k_ hk_ => ⟨hk_.1.1.1.1.1, hk_.1.1.1.1.2.1, hk_.1.1.1.1.2.2.1, hk_.1.1.1.1.2.2.2.1, hk_.1.1.1.1.2.2.2.2, hk_.1.1.1.2, hk_.1.1.2⟩)); have n8_ := Aside0.mk (Kd.R_mono (ok' := fun k_ => some k_ ≠ (.slice Ao27 t296.length co27 : Value).ownBlock ∧ some k_ ≠ (.slice Ao36 t309.length co36 : Value).ownBlock ∧ some k_ ≠ (.slice Ao74 t335.length co74 : Value).ownBlock) (Kd.R_keptB ((Kd.R_apart' (Kd.R_apart' HO_326004.out (Kd.R_typed HO_313001.out) (by decide)) (Kd.R_typed HO_313002.out) (by decide))) hkp (fun k_ hk_ hs_ => Or.elim hs_ (fun e_ => (hk_.1.2) e_) (fun e_ => Or.elim e_ (fun e_ => (hk_.2) e_) (fun e_ => (hk_.1.1.1.2) e_)))) (fun k_ hk_ => ⟨hk_.1.1.1.1.1, hk_.1.1.1.1.2, hk_.1.1.1.2⟩)); have n9_ := Aside0.mk (blk_kept bk_ hkp (fun hs_ => Or.elim hs_ (fun e_ => (fun e_ => (Kd.R_ne HO_313001.out BK275.out (by decide)) e_) e_) (fun e_ => Or.elim e_ (fun e_ => (fun e_ => (Kd.R_ne HO_313002.out BK275.out (by decide)) e_) e_) (fun e_ => (fun e_ => (Kd.R_ne HO_313004.out BK275.out (by decide)) e_) e_)))); have n10_ := Aside0.mk (blk_kept bk_ hkp (fun hs_ => Or.elim hs_ (fun e_ => (fun e_ => (Kd.R_ne HO_313001.out BK300.out (by decide)) e_) e_) (fun e_ => Or.elim e_ (fun e_ => (fun e_ => (Kd.R_ne HO_313002.out BK300.out (by decide)) e_) e_) (fun e_ => (fun e_ => (Kd.R_ne HO_313004.out BK300.out (by decide)) e_) e_)))); have n11_ := Aside0.mk (blk_kept bk_ hkp (fun hs_ => Or.elim hs_ (fun e_ => (fun e_ => (Kd.R_ne HO_313001.out BK312.out (by decide)) e_) e_) (fun e_ => Or.elim e_ (fun e_ => (fun e_ => (Kd.R_ne HO_313002.out BK312.out (by decide)) e_) e_) (fun e_ => (fun e_ => (Kd.R_ne HO_313004.out BK312.out (by decide)) e_) e_)))); have n12_ := Aside0.mk (blk_kept bk_ hkp (fun hs_ => Or.elim hs_ (fun e_ => (fun e_ => (Kd.R_ne HO_313001.out BK325.out (by decide)) e_) e_) (fun e_ => Or.elim e_ (fun e_ => (fun e_ => (Kd.R_ne HO_313002.out BK325.out (by decide)) e_) e_) (fun e_ => (fun e_ => (Kd.R_ne HO_313004.out BK325.out (by decide)) e_) e_)))); have n13_ := Aside0.mk (Kd.R_mono (ok' := fun k_ => some k_ ≠ (.slice Ao25 t289.length co25 : Value).ownBlock ∧ some k_ ≠ (.slice Ao26 t292.length co26 : Value).ownBlock ∧ some k_ ≠ (.slice Ao34 t302.length co34 : Value).ownBlock ∧ some k_ ≠ (.slice Ao35 t305.length co35 : Value).ownBlock ∧ some k_ ≠ (.slice Ao43 t314.length co43 : Value).ownBlock ∧ some k_ ≠ (.slice Ao44 t317.length co44 : Value).ownBlock ∧ some k_ ≠ (.slice Ao73 t331.length co73 : Value).ownBlock) (Kd.R_keptB ((Kd.R_apart' HO330.out (Kd.R_typed HO_313004.out) (by decide))) hkp (fun k_ hk_ hs_ => Or.elim hs_ (fun e_ => (hk_.1.1.1.1.2) e_) (fun e_ => Or.elim e_ (fun e_ => (hk_.1.1.1.2) e_) (fun e_ => (hk_.2) e_)))) (fun k_ hk_ => ⟨hk_.1.1.1.1.1.1.1.2, hk_.1.1.1.1.1.1.2, hk_.1.1.1.1.1.2, hk_.1.1.1.1.2, hk_.1.1.1.2, hk_.1.1.2, hk_.1.1.1.1.1.1.1.1⟩)); have n14_ := Aside0.mk (Kd.R_mono (ok' := fun k_ => some k_ ≠ (.slice Ao25 t289.length co25 : Value).ownBlock ∧ some k_ ≠ (.slice Ao26 t292.length co26 : Value).ownBlock ∧ some k_ ≠ (.slice Ao34 t302.length co34 : Value).ownBlock ∧ some k_ ≠ (.slice Ao35 t305.length co35 : Value).ownBlock ∧ some k_ ≠ (.slice Ao43 t314.length co43 : Value).ownBlock ∧ some k_ ≠ (.slice Ao44 t317.length co44 : Value).ownBlock ∧ some k_ ≠ (.slice Ao72 t328.length co72 : Value).ownBlock) (Kd.R_keptB ((Kd.R_apart' HO333.out (Kd.R_typed HO_313004.out) (by decide))) hkp (fun k_ hk_ hs_ => Or.elim hs_ (fun e_ => (hk_.1.1.1.1.2) e_) (fun e_ => Or.elim e_ (fun e_ => (hk_.1.1.1.2) e_) (fun e_ => (hk_.2) e_)))) (fun k_ hk_ => ⟨hk_.1.1.1.1.1.1.1.2, hk_.1.1.1.1.1.1.2, hk_.1.1.1.1.1.2, hk_.1.1.1.1.2, hk_.1.1.1.2, hk_.1.1.2, hk_.1.1.1.1.1.1.1.1⟩)); have n15_ := Aside0.mk (Kd.R_mono (ok' := fun k_ => some k_ ≠ (.slice Ao27 t296.length co27 : Value).ownBlock ∧ some k_ ≠ (.slice Ao36 t309.length co36 : Value).ownBlock ∧ some k_ ≠ (.slice Ao45 t321.length co45 : Value).ownBlock) (Kd.R_keptB ((Kd.R_apart' (Kd.R_apart' HO337.out (Kd.R_typed HO_313001.out) (by decide)) (Kd.R_typed HO_313002.out) (by decide))) hkp (fun k_ hk_ hs_ => Or.elim hs_ (fun e_ => (hk_.1.2) e_) (fun e_ => Or.elim e_ (fun e_ => (hk_.2) e_) (fun e_ => (hk_.1.1.1.2) e_)))) (fun k_ hk_ => ⟨hk_.1.1.1.1.1.2, hk_.1.1.1.1.2, hk_.1.1.1.2⟩)); have n16_ := Aside0.mk (hb); clear HO_301001; clear HO_301002; clear HO_301004; clear HO_313001; clear HO_313002; clear HO_313004; clear HO_326001; clear HO_326002; clear HO_326004; clear BK275; clear BK300; clear BK312; clear BK325; clear HO330; clear HO333; clear HO337; clear HB; have HO_301001 := n0_; have HO_301002 := n1_; have HO_301004 := n2_; have HO_313001 := n3_; have HO_313002 := n4_; have HO_313004 := n5_; have HO_326001 := n6_; have HO_326002 := n7_; have HO_326004 := n8_; have BK275 := n9_; have BK300 := n10_; have BK312 := n11_; have BK325 := n12_; have HO330 := n13_; have HO333 := n14_; have HO337 := n15_; have HB := n16_; clear n0_ n1_ n2_ n3_ n4_ n5_ n6_ n7_ n8_ n9_ n10_ n11_ n12_ n13_ n14_ n15_ n16_; (try clear hb); (try clear hkp); (try clear hy0); (try clear hy1); (try clear hy2)))
            (try simp only [Act.put, List.setIfInBounds_toArray, List.set_cons_zero, List.set_cons_succ])
            go_cut [65] (fun v65 wc => ∃ (kq : Nat) (x65_68 : Bool), v65 = .bool x65_68 ∧ Aside0 (laws_FnExactCelInput.j1 kq a1 t299 x65_68 a0_0 l0_1 l0_2 a0_3 l0_4 t288 t289 t292 t295 t296 t313 t314 t317 t320 t321 = some r) ∧ Aside0 (kq ≤ kj11) ∧ Aside0 (Kd.R (Kd.int .i64) 3 wc w.heap.size (fun k_ => some k_ ≠ ((.slice Ao26 t292.length co26) : Value).ownBlock ∧ some k_ ≠ ((.slice Ao34 t302.length co34) : Value).ownBlock ∧ some k_ ≠ ((.slice Ao35 t305.length co35) : Value).ownBlock ∧ some k_ ≠ ((.slice Ao43 t314.length co43) : Value).ownBlock ∧ some k_ ≠ ((.slice Ao44 t317.length co44) : Value).ownBlock) (.slice Ao25 t289.length co25) t289) ∧ Aside0 (Kd.R (Kd.int .i64) 3 wc w.heap.size (fun k_ => some k_ ≠ ((.slice Ao25 t289.length co25) : Value).ownBlock ∧ some k_ ≠ ((.slice Ao34 t302.length co34) : Value).ownBlock ∧ some k_ ≠ ((.slice Ao35 t305.length co35) : Value).ownBlock ∧ some k_ ≠ ((.slice Ao43 t314.length co43) : Value).ownBlock ∧ some k_ ≠ ((.slice Ao44 t317.length co44) : Value).ownBlock) (.slice Ao26 t292.length co26) t292) ∧ Aside0 (Kd.R (Kd.int .u8) 5 wc w.heap.size (fun k_ => some k_ ≠ ((.slice Ao36 t309.length co36) : Value).ownBlock ∧ some k_ ≠ ((.slice Ao45 t321.length co45) : Value).ownBlock) (.slice Ao27 t296.length co27) t296) ∧ Aside0 (Kd.R (Kd.int .i64) 3 wc w.heap.size (fun k_ => some k_ ≠ ((.slice Ao25 t289.length co25) : Value).ownBlock ∧ some k_ ≠ ((.slice Ao26 t292.length co26) : Value).ownBlock ∧ some k_ ≠ ((.slice Ao35 t305.length co35) : Value).ownBlock ∧ some k_ ≠ ((.slice Ao43 t314.length co43) : Value).ownBlock ∧ some k_ ≠ ((.slice Ao44 t317.length co44) : Value).ownBlock) (.slice Ao34 t302.length co34) t340) ∧ Aside0 (Kd.R (Kd.int .i64) 3 wc w.heap.size (fun k_ => some k_ ≠ ((.slice Ao25 t289.length co25) : Value).ownBlock ∧ some k_ ≠ ((.slice Ao26 t292.length co26) : Value).ownBlock ∧ some k_ ≠ ((.slice Ao34 t302.length co34) : Value).ownBlock ∧ some k_ ≠ ((.slice Ao43 t314.length co43) : Value).ownBlock ∧ some k_ ≠ ((.slice Ao44 t317.length co44) : Value).ownBlock) (.slice Ao35 t305.length co35) t341) ∧ Aside0 (Kd.R (Kd.int .u8) 5 wc w.heap.size (fun k_ => some k_ ≠ ((.slice Ao27 t296.length co27) : Value).ownBlock ∧ some k_ ≠ ((.slice Ao45 t321.length co45) : Value).ownBlock) (.slice Ao36 t309.length co36) t342) ∧ Aside0 (Kd.R (Kd.int .i64) 3 wc w.heap.size (fun k_ => some k_ ≠ ((.slice Ao25 t289.length co25) : Value).ownBlock ∧ some k_ ≠ ((.slice Ao26 t292.length co26) : Value).ownBlock ∧ some k_ ≠ ((.slice Ao34 t302.length co34) : Value).ownBlock ∧ some k_ ≠ ((.slice Ao35 t305.length co35) : Value).ownBlock ∧ some k_ ≠ ((.slice Ao44 t317.length co44) : Value).ownBlock) (.slice Ao43 t314.length co43) t314) ∧ Aside0 (Kd.R (Kd.int .i64) 3 wc w.heap.size (fun k_ => some k_ ≠ ((.slice Ao25 t289.length co25) : Value).ownBlock ∧ some k_ ≠ ((.slice Ao26 t292.length co26) : Value).ownBlock ∧ some k_ ≠ ((.slice Ao34 t302.length co34) : Value).ownBlock ∧ some k_ ≠ ((.slice Ao35 t305.length co35) : Value).ownBlock ∧ some k_ ≠ ((.slice Ao43 t314.length co43) : Value).ownBlock) (.slice Ao44 t317.length co44) t317) ∧ Aside0 (Kd.R (Kd.int .u8) 5 wc w.heap.size (fun k_ => some k_ ≠ ((.slice Ao27 t296.length co27) : Value).ownBlock ∧ some k_ ≠ ((.slice Ao36 t309.length co36) : Value).ownBlock) (.slice Ao45 t321.length co45) t321) ∧ Aside0 (wc.heap[gb275]? = some (.cells #[.int .i64 a0_0, (.slice A0_1 l0_1.length c0_1), (.slice A0_2 l0_2.length c0_2), .int .i64 a0_3, (.slice A0_4 l0_4.length c0_4)] 27 (0, 0))) ∧ Aside0 (wc.heap[gb300]? = some (.cells #[.int .i64 t288, (.slice Ao25 t289.length co25), (.slice Ao26 t292.length co26), .int .i64 t295, (.slice Ao27 t296.length co27)] 31 (0, 0))) ∧ Aside0 (wc.heap[gb312]? = some (.cells #[.int .i64 t301, (.slice Ao34 t302.length co34), (.slice Ao35 t305.length co35), .int .i64 t308, (.slice Ao36 t309.length co36)] 31 (0, 0))) ∧ Aside0 (wc.heap[gb325]? = some (.cells #[.int .i64 t313, (.slice Ao43 t314.length co43), (.slice Ao44 t317.length co44), .int .i64 t320, (.slice Ao45 t321.length co45)] 31 (0, 0))) ∧ Aside0 (Below w.heap.size w wc))
            case first =>
              have H := HC69.out
              clear HC69
              by_cases c81 : t339 < 0
              · rw [if_pos c81] at H
                exact absurd H (by rw [htrue.out]; cases kj11 <;> simp [laws_FnExactCelInput.j1])
              · rw [if_neg c81] at H
                have c81b0 : decide (t339 < 0) = false := decide_eq_false c81
                clear c81
                (first | rw [c81b0] | (simp only [i64_w, i32_w]; rw [c81b0]) | skip)
                replace H := Option.bind_eq_some_iff.mp H
                obtain ⟨t343, A820, H⟩ := H
                replace H : (if t343 = true then (laws_FnExactCelInput.j1 kj11 a1 t299 (t324 != t299) a0_0 l0_1 l0_2 a0_3 l0_4 t288 t289 t292 t295 t296 t313 t314 t317 t320 t321) else (laws_FnExactCelInput.j1 kj11 a1 t299 true a0_0 l0_1 l0_2 a0_3 l0_4 t288 t289 t292 t295 t296 t313 t314 t317 t320 t321)) = some r := H
                have A82 := Aside0.mk A820
                clear A820
                by_cases c83 : t343 = true
                · subst c83
                  have H1 : (laws_FnExactCelInput.j1 kj11 a1 t299 (t324 != t299) a0_0 l0_1 l0_2 a0_3 l0_4 t288 t289 t292 t295 t296 t313 t314 t317 t320 t321) = some r := by rw [if_pos rfl] at H; exact H
                  clear H
                  have H := H1
                  clear H1
                  have H' := Aside0.mk H
                  clear H
                  have hnb84 := NB325_275.out
                  have hnc84 := NB275_325.out
                  have hnb85 := NB325_300.out
                  have hnc85 := NB300_325.out
                  have hnb86 := NB325_312.out
                  have hnc86 := NB312_325.out
                  have hcz87_0 : w80.cell? ⟨gb325, 0, none⟩ = some (.int .i64 t313) := (blk_cell BK325.out 0).trans rfl
                  have hcz87_1 : w80.cell? ⟨gb325, 1, none⟩ = some (.slice Ao43 t314.length co43) := (blk_cell BK325.out 1).trans rfl
                  have hcz87_2 : w80.cell? ⟨gb325, 2, none⟩ = some (.slice Ao44 t317.length co44) := (blk_cell BK325.out 2).trans rfl
                  have hcz87_3 : w80.cell? ⟨gb325, 3, none⟩ = some (.int .i64 t320) := (blk_cell BK325.out 3).trans rfl
                  have hcz87_4 : w80.cell? ⟨gb325, 4, none⟩ = some (.slice Ao45 t321.length co45) := (blk_cell BK325.out 4).trans rfl
                  have hfz87_0 := blk_frozen BK325.out 0
                  have hfz87_1 := blk_frozen BK325.out 1
                  have hfz87_2 := blk_frozen BK325.out 2
                  have hfz87_3 := blk_frozen BK325.out 3
                  have hfz87_4 := blk_frozen BK325.out 4
                  have hnb88 := NB300_275.out
                  have hnc88 := NB275_300.out
                  have hnb89 := NB300_312.out
                  have hnc89 := NB312_300.out
                  have hcz90_0 : w80.cell? ⟨gb300, 0, none⟩ = some (.int .i64 t288) := (blk_cell BK300.out 0).trans rfl
                  have hcz90_1 : w80.cell? ⟨gb300, 1, none⟩ = some (.slice Ao25 t289.length co25) := (blk_cell BK300.out 1).trans rfl
                  have hcz90_2 : w80.cell? ⟨gb300, 2, none⟩ = some (.slice Ao26 t292.length co26) := (blk_cell BK300.out 2).trans rfl
                  have hcz90_3 : w80.cell? ⟨gb300, 3, none⟩ = some (.int .i64 t295) := (blk_cell BK300.out 3).trans rfl
                  have hcz90_4 : w80.cell? ⟨gb300, 4, none⟩ = some (.slice Ao27 t296.length co27) := (blk_cell BK300.out 4).trans rfl
                  have hfz90_0 := blk_frozen BK300.out 0
                  have hfz90_1 := blk_frozen BK300.out 1
                  have hfz90_2 := blk_frozen BK300.out 2
                  have hfz90_3 := blk_frozen BK300.out 3
                  have hfz90_4 := blk_frozen BK300.out 4
                  go_wp2_with (first | (go_at_call 9; (with_reducible refine (laws_eqCelCell.calls kj11 t313 _ _ t314 _ _ t317 t320 _ _ t321 t288 _ _ t289 _ _ t292 t295 _ _ t296 true _ ?side1 ?side2 ?side3 ?side4 ?side5 ?side6 ?side7 ?side8 ?side9 ?side10 ?side11 ?side12 A82.out).mono ?_); (case side1 => repeat (first | exact (Kd.R_reads' HO_326001.out).2.2 | (with_reducible refine Kd.C_alloc ?_ _) | (with_reducible refine Kd.C_drewN ?_ _) | (with_reducible refine Kd.C_drew ?_))); (case side2 => exact (Kd.R_reads' HO_326001.out).2.1); (case side3 => repeat (first | exact (Kd.R_reads' HO_326002.out).2.2 | (with_reducible refine Kd.C_alloc ?_ _) | (with_reducible refine Kd.C_drewN ?_ _) | (with_reducible refine Kd.C_drew ?_))); (case side4 => exact (Kd.R_reads' HO_326002.out).2.1); (case side5 => repeat (first | exact (Kd.R_reads' HO_326004.out).2.2 | (with_reducible refine Kd.C_alloc ?_ _) | (with_reducible refine Kd.C_drewN ?_ _) | (with_reducible refine Kd.C_drew ?_))); (case side6 => exact (Kd.R_reads' HO_326004.out).2.1); (case side7 => repeat (first | exact (Kd.R_reads' HO_301001.out).2.2 | (with_reducible refine Kd.C_alloc ?_ _) | (with_reducible refine Kd.C_drewN ?_ _) | (with_reducible refine Kd.C_drew ?_))); (case side8 => exact (Kd.R_reads' HO_301001.out).2.1); (case side9 => repeat (first | exact (Kd.R_reads' HO_301002.out).2.2 | (with_reducible refine Kd.C_alloc ?_ _) | (with_reducible refine Kd.C_drewN ?_ _) | (with_reducible refine Kd.C_drew ?_))); (case side10 => exact (Kd.R_reads' HO_301002.out).2.1); (case side11 => repeat (first | exact (Kd.R_reads' HO_301004.out).2.2 | (with_reducible refine Kd.C_alloc ?_ _) | (with_reducible refine Kd.C_drewN ?_ _) | (with_reducible refine Kd.C_drew ?_))); (case side12 => exact (Kd.R_reads' HO_301004.out).2.1); rintro e w91 ⟨rfl, hb⟩; have n0_ := Aside0.mk (Kd.R_below (by (with_reducible repeat (first | apply Kd.R_alloc | apply Kd.R_drewN | apply Kd.R_drew)); exact HO_301001.out) hb); have n1_ := Aside0.mk (Kd.R_below (by (with_reducible repeat (first | apply Kd.R_alloc | apply Kd.R_drewN | apply Kd.R_drew)); exact HO_301002.out) hb); have n2_ := Aside0.mk (Kd.R_below (by (with_reducible repeat (first | apply Kd.R_alloc | apply Kd.R_drewN | apply Kd.R_drew)); exact HO_301004.out) hb); have n3_ := Aside0.mk (Kd.R_below (by (with_reducible repeat (first | apply Kd.R_alloc | apply Kd.R_drewN | apply Kd.R_drew)); exact HO_313001.out) hb); have n4_ := Aside0.mk (Kd.R_below (by (with_reducible repeat (first | apply Kd.R_alloc | apply Kd.R_drewN | apply Kd.R_drew)); exact HO_313002.out) hb); have n5_ := Aside0.mk (Kd.R_below (by (with_reducible repeat (first | apply Kd.R_alloc | apply Kd.R_drewN | apply Kd.R_drew)); exact HO_313004.out) hb); have n6_ := Aside0.mk (Kd.R_below (by (with_reducible repeat (first | apply Kd.R_alloc | apply Kd.R_drewN | apply Kd.R_drew)); exact HO_326001.out) hb); have n7_ := Aside0.mk (Kd.R_below (by (with_reducible repeat (first | apply Kd.R_alloc | apply Kd.R_drewN | apply Kd.R_drew)); exact HO_326002.out) hb); have n8_ := Aside0.mk (Kd.R_below (by (with_reducible repeat (first | apply Kd.R_alloc | apply Kd.R_drewN | apply Kd.R_drew)); exact HO_326004.out) hb); have n9_ := Aside0.mk (Kd.R_below (by (with_reducible repeat (first | apply Kd.R_alloc | apply Kd.R_drewN | apply Kd.R_drew)); exact HO330.out) hb); have n10_ := Aside0.mk (Kd.R_below (by (with_reducible repeat (first | apply Kd.R_alloc | apply Kd.R_drewN | apply Kd.R_drew)); exact HO333.out) hb); have n11_ := Aside0.mk (Kd.R_below (by (with_reducible repeat (first | apply Kd.R_alloc | apply Kd.R_drewN | apply Kd.R_drew)); exact HO337.out) hb); have n12_ := Aside0.mk (blk_below (g := gb275) (o := .cells #[.int .i64 a0_0, .slice A0_1 l0_1.length c0_1, .slice A0_2 l0_2.length c0_2, .int .i64 a0_3, .slice A0_4 l0_4.length c0_4] 27 (0, 0)) bk_ hb); have n13_ := Aside0.mk (blk_below (g := gb300) (o := .cells #[.int .i64 t288, .slice Ao25 t289.length co25, .slice Ao26 t292.length co26, .int .i64 t295, .slice Ao27 t296.length co27] 31 (0, 0)) bk_ hb); have n14_ := Aside0.mk (blk_below (g := gb312) (o := .cells #[.int .i64 t301, .slice Ao34 t302.length co34, .slice Ao35 t305.length co35, .int .i64 t308, .slice Ao36 t309.length co36] 31 (0, 0)) bk_ hb); have n15_ := Aside0.mk (blk_below (g := gb325) (o := .cells #[.int .i64 t313, .slice Ao43 t314.length co43, .slice Ao44 t317.length co44, .int .i64 t320, .slice Ao45 t321.length co45] 31 (0, 0)) bk_ hb); have n16_ := Aside0.mk (below_step hb_ hb); clear HO_301001; clear HO_301002; clear HO_301004; clear HO_313001; clear HO_313002; clear HO_313004; clear HO_326001; clear HO_326002; clear HO_326004; clear HO330; clear HO333; clear HO337; clear BK275; clear BK300; clear BK312; clear BK325; clear HB; have HO_301001 := n0_; have HO_301002 := n1_; have HO_301004 := n2_; have HO_313001 := n3_; have HO_313002 := n4_; have HO_313004 := n5_; have HO_326001 := n6_; have HO_326002 := n7_; have HO_326004 := n8_; have HO330 := n9_; have HO333 := n10_; have HO337 := n11_; have BK275 := n12_; have BK300 := n13_; have BK312 := n14_; have BK325 := n15_; have HB := n16_; clear n0_ n1_ n2_ n3_ n4_ n5_ n6_ n7_ n8_ n9_ n10_ n11_ n12_ n13_ n14_ n15_ n16_; (try clear hb); (try clear hb2); (try clear hk); (try clear hi)))
                  go_meet
                  case rel => exact ⟨_, ((t324 != t299)), rs_, H', ⟨by have := HJ11.out; first | omega | exact Nat.le_refl _⟩, ⟨by (with_reducible repeat (first | apply Kd.R_alloc | apply Kd.R_drewN | apply Kd.R_drew)); exact Kd.R_mono HO_301001.out (fun _ hk => ⟨hk.1, ⟨hk.2.1, ⟨hk.2.2.1, ⟨hk.2.2.2.1, hk.2.2.2.2.1⟩⟩⟩⟩)⟩, ⟨by (with_reducible repeat (first | apply Kd.R_alloc | apply Kd.R_drewN | apply Kd.R_drew)); exact Kd.R_mono HO_301002.out (fun _ hk => ⟨hk.1, ⟨hk.2.1, ⟨hk.2.2.1, ⟨hk.2.2.2.1, hk.2.2.2.2.1⟩⟩⟩⟩)⟩, ⟨by (with_reducible repeat (first | apply Kd.R_alloc | apply Kd.R_drewN | apply Kd.R_drew)); exact Kd.R_mono HO_301004.out (fun _ hk => ⟨hk.1, hk.2.1⟩)⟩, ⟨by (with_reducible repeat (first | apply Kd.R_alloc | apply Kd.R_drewN | apply Kd.R_drew)); exact Kd.R_mono HO_313001.out (fun _ hk => ⟨hk.1.1.1, ⟨hk.1.1.2.1, ⟨hk.1.1.2.2.1, ⟨hk.1.1.2.2.2.1, hk.1.1.2.2.2.2⟩⟩⟩⟩)⟩, ⟨by (with_reducible repeat (first | apply Kd.R_alloc | apply Kd.R_drewN | apply Kd.R_drew)); exact Kd.R_mono HO_313002.out (fun _ hk => ⟨hk.1.1.1, ⟨hk.1.1.2.1, ⟨hk.1.1.2.2.1, ⟨hk.1.1.2.2.2.1, hk.1.1.2.2.2.2⟩⟩⟩⟩)⟩, ⟨by (with_reducible repeat (first | apply Kd.R_alloc | apply Kd.R_drewN | apply Kd.R_drew)); exact Kd.R_mono HO_313004.out (fun _ hk => ⟨hk.1.1, hk.1.2⟩)⟩, ⟨by (with_reducible repeat (first | apply Kd.R_alloc | apply Kd.R_drewN | apply Kd.R_drew)); exact Kd.R_mono HO_326001.out (fun _ hk => ⟨hk.1, ⟨hk.2.1, ⟨hk.2.2.1, ⟨hk.2.2.2.1, hk.2.2.2.2.1⟩⟩⟩⟩)⟩, ⟨by (with_reducible repeat (first | apply Kd.R_alloc | apply Kd.R_drewN | apply Kd.R_drew)); exact Kd.R_mono HO_326002.out (fun _ hk => ⟨hk.1, ⟨hk.2.1, ⟨hk.2.2.1, ⟨hk.2.2.2.1, hk.2.2.2.2.1⟩⟩⟩⟩)⟩, ⟨by (with_reducible repeat (first | apply Kd.R_alloc | apply Kd.R_drewN | apply Kd.R_drew)); exact Kd.R_mono HO_326004.out (fun _ hk => ⟨hk.1, hk.2.1⟩)⟩, ⟨by (with_reducible repeat (first | refine blk_drewN ?_ _ | refine blk_drew ?_ | refine blk_alloc ?_ _)); exact BK275.out⟩, ⟨by (with_reducible repeat (first | refine blk_drewN ?_ _ | refine blk_drew ?_ | refine blk_alloc ?_ _)); exact BK300.out⟩, ⟨by (with_reducible repeat (first | refine blk_drewN ?_ _ | refine blk_drew ?_ | refine blk_alloc ?_ _)); exact BK312.out⟩, ⟨by (with_reducible repeat (first | refine blk_drewN ?_ _ | refine blk_drew ?_ | refine blk_alloc ?_ _)); exact BK325.out⟩, ⟨hb_⟩⟩
                · replace c83 := Bool.eq_false_iff.mpr c83
                  subst c83
                  have H1 : (laws_FnExactCelInput.j1 kj11 a1 t299 true a0_0 l0_1 l0_2 a0_3 l0_4 t288 t289 t292 t295 t296 t313 t314 t317 t320 t321) = some r := by rw [if_neg (show ¬ (false = true) by decide)] at H; exact H
                  clear H
                  have H := H1
                  clear H1
                  exact absurd H (by rw [htrue.out]; cases kj11 <;> simp [laws_FnExactCelInput.j1])
            case rest =>
              clear HC69
              try clear c1
              try clear c2
              try clear p2
              try clear c3
              try clear c4
              try clear c4b0
              try clear c5
              try clear c6
              try clear c7
              try clear c8
              try clear c9
              try clear c10
              try clear c23
              try clear c31
              try clear c32
              try clear c39
              try clear c40
              try clear c41
              try clear c47
              try clear c48
              try clear c49
              try clear c50
              try clear c52
              try clear c53
              try clear c56
              try clear c57
              try clear c58
              try clear c60
              try clear c61
              try clear c64
              try clear c67
              try clear c76
              try clear c77
              try clear c78
              try clear c81
              try clear c81b0
              try clear c83
              try clear c84
              try clear c85
              try clear c86
              try clear c88
              try clear c89
              try clear c92
              try clear c93
              try clear c94
              try clear c96
              try clear c97
              try clear hcz14_0
              try clear hcz14_1
              try clear hcz14_2
              try clear hcz14_3
              try clear hcz14_4
              try clear hcz16_0
              try clear hcz16_1
              try clear hcz16_2
              try clear hcz16_3
              try clear hcz16_4
              try clear hcz24_0
              try clear hcz24_1
              try clear hcz24_2
              try clear hcz24_3
              try clear hcz24_4
              try clear hcz28_0
              try clear hcz28_1
              try clear hcz28_2
              try clear hcz28_3
              try clear hcz28_4
              try clear hcz33_0
              try clear hcz33_1
              try clear hcz33_2
              try clear hcz33_3
              try clear hcz33_4
              try clear hcz42_0
              try clear hcz42_1
              try clear hcz42_2
              try clear hcz42_3
              try clear hcz42_4
              try clear hcz51_0
              try clear hcz51_1
              try clear hcz51_2
              try clear hcz51_3
              try clear hcz51_4
              try clear hcz54_0
              try clear hcz54_1
              try clear hcz54_2
              try clear hcz54_3
              try clear hcz54_4
              try clear hcz59_0
              try clear hcz59_1
              try clear hcz59_2
              try clear hcz59_3
              try clear hcz59_4
              try clear hcz62_0
              try clear hcz62_1
              try clear hcz62_2
              try clear hcz62_3
              try clear hcz62_4
              try clear hcz6_0
              try clear hcz6_1
              try clear hcz6_2
              try clear hcz6_3
              try clear hcz6_4
              try clear hcz79_0
              try clear hcz79_1
              try clear hcz79_2
              try clear hcz79_3
              try clear hcz79_4
              try clear hcz87_0
              try clear hcz87_1
              try clear hcz87_2
              try clear hcz87_3
              try clear hcz87_4
              try clear hcz90_0
              try clear hcz90_1
              try clear hcz90_2
              try clear hcz90_3
              try clear hcz90_4
              try clear hcz95_0
              try clear hcz95_1
              try clear hcz95_2
              try clear hcz95_3
              try clear hcz95_4
              try clear hcz98_0
              try clear hcz98_1
              try clear hcz98_2
              try clear hcz98_3
              try clear hcz98_4
              try clear hfz14_0
              try clear hfz14_1
              try clear hfz14_2
              try clear hfz14_3
              try clear hfz14_4
              try clear hfz16_0
              try clear hfz16_1
              try clear hfz16_2
              try clear hfz16_3
              try clear hfz16_4
              try clear hfz24_0
              try clear hfz24_1
              try clear hfz24_2
              try clear hfz24_3
              try clear hfz24_4
              try clear hfz28_0
              try clear hfz28_1
              try clear hfz28_2
              try clear hfz28_3
              try clear hfz28_4
              try clear hfz33_0
              try clear hfz33_1
              try clear hfz33_2
              try clear hfz33_3
              try clear hfz33_4
              try clear hfz42_0
              try clear hfz42_1
              try clear hfz42_2
              try clear hfz42_3
              try clear hfz42_4
              try clear hfz51_0
              try clear hfz51_1
              try clear hfz51_2
              try clear hfz51_3
              try clear hfz51_4
              try clear hfz54_0
              try clear hfz54_1
              try clear hfz54_2
              try clear hfz54_3
              try clear hfz54_4
              try clear hfz59_0
              try clear hfz59_1
              try clear hfz59_2
              try clear hfz59_3
              try clear hfz59_4
              try clear hfz62_0
              try clear hfz62_1
              try clear hfz62_2
              try clear hfz62_3
              try clear hfz62_4
              try clear hfz6_0
              try clear hfz6_1
              try clear hfz6_2
              try clear hfz6_3
              try clear hfz6_4
              try clear hfz79_0
              try clear hfz79_1
              try clear hfz79_2
              try clear hfz79_3
              try clear hfz79_4
              try clear hfz87_0
              try clear hfz87_1
              try clear hfz87_2
              try clear hfz87_3
              try clear hfz87_4
              try clear hfz90_0
              try clear hfz90_1
              try clear hfz90_2
              try clear hfz90_3
              try clear hfz90_4
              try clear hfz95_0
              try clear hfz95_1
              try clear hfz95_2
              try clear hfz95_3
              try clear hfz95_4
              try clear hfz98_0
              try clear hfz98_1
              try clear hfz98_2
              try clear hfz98_3
              try clear hfz98_4
              try clear p2
              obtain ⟨kq, x65_68, rfl, HA, HJ68, HO_301001, HO_301002, HO_301004, HO_313001, HO_313002, HO_313004, HO_326001, HO_326002, HO_326004, BK275, BK300, BK312, BK325, HB⟩ := hcut
              have hl313001_68 := (Kd.R_reads' HO_313001.out).1
              rw [hl313001_68] at HO_313001
              (try simp only [hl313001_68])
              (try simp only [hl313001_68] at BK275)
              (try simp only [hl313001_68] at BK300)
              (try simp only [hl313001_68] at BK312)
              (try simp only [hl313001_68] at BK325)
              (try simp only [hl313001_68] at HO_301001)
              (try simp only [hl313001_68] at HO_301002)
              (try simp only [hl313001_68] at HO_301004)
              (try simp only [hl313001_68] at HO_313002)
              (try simp only [hl313001_68] at HO_313004)
              (try simp only [hl313001_68] at HO_326001)
              (try simp only [hl313001_68] at HO_326002)
              (try simp only [hl313001_68] at HO_326004)
              have hl313002_68 := (Kd.R_reads' HO_313002.out).1
              rw [hl313002_68] at HO_313002
              (try simp only [hl313002_68])
              (try simp only [hl313002_68] at BK275)
              (try simp only [hl313002_68] at BK300)
              (try simp only [hl313002_68] at BK312)
              (try simp only [hl313002_68] at BK325)
              (try simp only [hl313002_68] at HO_301001)
              (try simp only [hl313002_68] at HO_301002)
              (try simp only [hl313002_68] at HO_301004)
              (try simp only [hl313002_68] at HO_313001)
              (try simp only [hl313002_68] at HO_313004)
              (try simp only [hl313002_68] at HO_326001)
              (try simp only [hl313002_68] at HO_326002)
              (try simp only [hl313002_68] at HO_326004)
              have hl313004_68 := (Kd.R_reads' HO_313004.out).1
              rw [hl313004_68] at HO_313004
              (try simp only [hl313004_68])
              (try simp only [hl313004_68] at BK275)
              (try simp only [hl313004_68] at BK300)
              (try simp only [hl313004_68] at BK312)
              (try simp only [hl313004_68] at BK325)
              (try simp only [hl313004_68] at HO_301001)
              (try simp only [hl313004_68] at HO_301002)
              (try simp only [hl313004_68] at HO_301004)
              (try simp only [hl313004_68] at HO_313001)
              (try simp only [hl313004_68] at HO_313002)
              (try simp only [hl313004_68] at HO_326001)
              (try simp only [hl313004_68] at HO_326002)
              (try simp only [hl313004_68] at HO_326004)
              cases kq with
              | zero => exact absurd HA.out (by simp [laws_FnExactCelInput.j1])
              | succ kj68 =>
                have H := HA.out
                clear HA
                simp only [laws_FnExactCelInput.j1] at H
                by_cases c100 : x65_68 = true
                · subst c100
                  have H1 : (some false) = some r := by rw [if_pos rfl] at H; exact H
                  clear H
                  have H := H1
                  clear H1
                  exact absurd (Option.some.inj H) (by rw [htrue.out]; decide)
                · replace c100 := Bool.eq_false_iff.mpr c100
                  subst c100
                  have H1 : ((laws_markCelCell.f kj68 t313 t314 t317 t320 t321 1).bind fun bt344 => ((laws_heldCelCell.f kj68 t313 bt344.2.1 bt344.2.2.1 t320 bt344.2.2.2 1).bind fun t348 => (if t348 < 0 then (some false) else (if t348 = bt344.1 then ((laws_toCelCell.f kj68 a0_0 l0_1 l0_2 a0_3 l0_4).bind fun bt349 => ((impl_CelInput.f kj68 bt349.1 bt349.2.1 bt349.2.2.1 bt349.2.2.2.1 bt349.2.2.2.2 a1).bind fun bt360 => ((laws_eqCelCell.f kj68 bt360.1 bt360.2.1 bt360.2.2.1 bt360.2.2.2.1 bt360.2.2.2.2.1 t288 t289 t292 t295 t296).bind fun t373 => (if t373 = true then (laws_FnExactCelInput.j2 kj68 bt344.1 (bt360.2.2.2.2.2 != t299) t313 bt344.2.1 bt344.2.2.1 t320 bt344.2.2.2) else (laws_FnExactCelInput.j2 kj68 bt344.1 true t313 bt344.2.1 bt344.2.2.1 t320 bt344.2.2.2))))) else (some false))))) = some r := by rw [if_neg (show ¬ (false = true) by decide)] at H; exact H
                  clear H
                  have H := H1
                  clear H1
                  replace H := Option.bind_eq_some_iff.mp H
                  obtain ⟨⟨t344, t345, t346, t347⟩, A1010, H⟩ := H
                  replace H : ((laws_heldCelCell.f kj68 t313 t345 t346 t320 t347 1).bind fun t348 => (if t348 < 0 then (some false) else (if t348 = t344 then ((laws_toCelCell.f kj68 a0_0 l0_1 l0_2 a0_3 l0_4).bind fun bt349 => ((impl_CelInput.f kj68 bt349.1 bt349.2.1 bt349.2.2.1 bt349.2.2.2.1 bt349.2.2.2.2 a1).bind fun bt360 => ((laws_eqCelCell.f kj68 bt360.1 bt360.2.1 bt360.2.2.1 bt360.2.2.2.1 bt360.2.2.2.2.1 t288 t289 t292 t295 t296).bind fun t373 => (if t373 = true then (laws_FnExactCelInput.j2 kj68 t344 (bt360.2.2.2.2.2 != t299) t313 t345 t346 t320 t347) else (laws_FnExactCelInput.j2 kj68 t344 true t313 t345 t346 t320 t347))))) else (some false)))) = some r := H
                  have A101 := Aside0.mk A1010
                  clear A1010
                  replace H := Option.bind_eq_some_iff.mp H
                  obtain ⟨t348, A1020, H⟩ := H
                  replace H : (if t348 < 0 then (some false) else (if t348 = t344 then ((laws_toCelCell.f kj68 a0_0 l0_1 l0_2 a0_3 l0_4).bind fun bt349 => ((impl_CelInput.f kj68 bt349.1 bt349.2.1 bt349.2.2.1 bt349.2.2.2.1 bt349.2.2.2.2 a1).bind fun bt360 => ((laws_eqCelCell.f kj68 bt360.1 bt360.2.1 bt360.2.2.1 bt360.2.2.2.1 bt360.2.2.2.2.1 t288 t289 t292 t295 t296).bind fun t373 => (if t373 = true then (laws_FnExactCelInput.j2 kj68 t344 (bt360.2.2.2.2.2 != t299) t313 t345 t346 t320 t347) else (laws_FnExactCelInput.j2 kj68 t344 true t313 t345 t346 t320 t347))))) else (some false))) = some r := H
                  have A102 := Aside0.mk A1020
                  clear A1020
                  by_cases c103 : t348 < 0
                  · rw [if_pos c103] at H
                    exact absurd (Option.some.inj H) (by rw [htrue.out]; decide)
                  · rw [if_neg c103] at H
                    have c103b0 : decide (t348 < 0) = false := decide_eq_false c103
                    clear c103
                    by_cases c111 : t348 = t344
                    · rw [if_pos c111] at H
                      have c111b0 : (t348 == t344) = true := beq_iff_eq.mpr c111
                      have c111b1 : (t348 != t344) = false := bne_eq_false_iff_eq.mpr c111
                      clear c111
                      replace H := Option.bind_eq_some_iff.mp H
                      obtain ⟨⟨t349, t350, t353, t356, t357⟩, A1120, H⟩ := H
                      replace H : ((impl_CelInput.f kj68 t349 t350 t353 t356 t357 a1).bind fun bt360 => ((laws_eqCelCell.f kj68 bt360.1 bt360.2.1 bt360.2.2.1 bt360.2.2.2.1 bt360.2.2.2.2.1 t288 t289 t292 t295 t296).bind fun t373 => (if t373 = true then (laws_FnExactCelInput.j2 kj68 t344 (bt360.2.2.2.2.2 != t299) t313 t345 t346 t320 t347) else (laws_FnExactCelInput.j2 kj68 t344 true t313 t345 t346 t320 t347)))) = some r := H
                      have A112 := Aside0.mk A1120
                      clear A1120
                      replace H := Option.bind_eq_some_iff.mp H
                      obtain ⟨⟨t360, t361, t364, t367, t368, t371⟩, A1130, H⟩ := H
                      replace H : ((laws_eqCelCell.f kj68 t360 t361 t364 t367 t368 t288 t289 t292 t295 t296).bind fun t373 => (if t373 = true then (laws_FnExactCelInput.j2 kj68 t344 (t371 != t299) t313 t345 t346 t320 t347) else (laws_FnExactCelInput.j2 kj68 t344 true t313 t345 t346 t320 t347))) = some r := H
                      have A113 := Aside0.mk A1130
                      clear A1130
                      have HC114 := Aside0.mk H
                      clear H
                      have hnb115 := NB325_275.out
                      have hnc115 := NB275_325.out
                      have hnb116 := NB325_300.out
                      have hnc116 := NB300_325.out
                      have hnb117 := NB325_312.out
                      have hnc117 := NB312_325.out
                      have hcz118_0 : wc.cell? ⟨gb325, 0, none⟩ = some (.int .i64 t313) := (blk_cell BK325.out 0).trans rfl
                      have hcz118_1 : wc.cell? ⟨gb325, 1, none⟩ = some (.slice Ao43 t314.length co43) := (blk_cell BK325.out 1).trans rfl
                      have hcz118_2 : wc.cell? ⟨gb325, 2, none⟩ = some (.slice Ao44 t317.length co44) := (blk_cell BK325.out 2).trans rfl
                      have hcz118_3 : wc.cell? ⟨gb325, 3, none⟩ = some (.int .i64 t320) := (blk_cell BK325.out 3).trans rfl
                      have hcz118_4 : wc.cell? ⟨gb325, 4, none⟩ = some (.slice Ao45 t321.length co45) := (blk_cell BK325.out 4).trans rfl
                      have hfz118_0 := blk_frozen BK325.out 0
                      have hfz118_1 := blk_frozen BK325.out 1
                      have hfz118_2 := blk_frozen BK325.out 2
                      have hfz118_3 := blk_frozen BK325.out 3
                      have hfz118_4 := blk_frozen BK325.out 4
                      go_upto_region 25 with (first | ((with_reducible refine gate_callee (f := 10) rfl ?_); refine goesL_ (some 68) rfl rfl Try.func10 (by kernel_rfl) rfl #[.agg #[.int .i64 t313, .slice Ao43 t314.length co43, .slice Ao44 t317.length co44, .int .i64 t320, .slice Ao45 t321.length co45], .int .i64 1] rfl ml_ ?_; (with_reducible refine (laws_markCelCell.calls kj68 t313 (fun k_ => some k_ = (.slice Ao43 t314.length co43 : Value).ownBlock) (.slice Ao43 t314.length co43) t314 (fun k_ => some k_ = (.slice Ao44 t317.length co44 : Value).ownBlock) (.slice Ao44 t317.length co44) t317 t320 (fun k_ => some k_ = (.slice Ao45 t321.length co45 : Value).ownBlock) (.slice Ao45 t321.length co45) t321 1 t344 t345 t346 t347 w _ ?side1 ?side2 ?side3 ?side4 ?side5 ?side6 A101.out).mono ?_); (case side1 => repeat (first | (with_reducible first | exact HB.out | apply below_alloc | apply pw_below_drewN | apply below_drew1 | refine below_set ?_ GE275.out | refine below_set ?_ GE300.out | refine below_set ?_ GE312.out | refine below_set ?_ GE325.out) | exact HB.out)); (case side2 => exact Kd.R_tight rfl HO_326001.out); (case side3 => exact fun k_ e_ => (HO_326001.out.1 k_ e_.symm).2.2.2.2); (case side4 => exact Kd.R_tight rfl HO_326002.out); (case side5 => exact fun k_ e_ => (HO_326002.out.1 k_ e_.symm).2.2.2.2); (case side6 => exact Kd.R_tight rfl HO_326004.out); rintro e w119 ⟨rfl, hy0, hy1, hy2, hb, hkp⟩; refine ⟨_, rfl, ?_⟩; have n0_ := Aside0.mk (Kd.R_mono (ok' := fun k_ => some k_ ≠ (.slice Ao26 t292.length co26 : Value).ownBlock ∧ some k_ ≠ (.slice Ao34 t340.length co34 : Value).ownBlock ∧ some k_ ≠ (.slice Ao35 t341.length co35 : Value).ownBlock ∧ some k_ ≠ (.slice Ao43 t314.length co43 : Value).ownBlock ∧ some k_ ≠ (.slice Ao44 t317.length co44 : Value).ownBlock) (Kd.R_keptB ((Kd.R_apart' HO_301001.out (Kd.R_typed HO_326004.out) (by decide))) hkp (fun k_ hk_ hs_ => Or.elim hs_ (fun e_ => (hk_.1.2.2.2.1) e_) (fun e_ => Or.elim e_ (fun e_ => (hk_.1.2.2.2.2) e_) (fun e_ => (hk_.2) e_)))) (fun k_ hk_ => ⟨hk_.1.1.1, hk_.1.1.2.1, hk_.1.1.2.2.1, hk_.1.1.2.2.2.1, hk_.1.1.2.2.2.2⟩)); have n1_ := Aside0.mk (Kd.R_mono (ok' := fun k_ => some k_ ≠ (.slice Ao25 t289.length co25 : Value).ownBlock ∧ some k_ ≠ (.slice Ao34 t340.length co34 : Value).ownBlock ∧ some k_ ≠ (.slice Ao35 t341.length co35 : Value).ownBlock ∧ some k_ ≠ (.slice Ao43 t314.length co43 : Value).ownBlock ∧ some k_ ≠ (.slice Ao44 t317.length co44 : Value).ownBlock) (Kd.R_keptB ((Kd.R_apart' HO_301002.out (Kd.R_typed HO_326004.out) (by decide))) hkp (fun k_ hk_ hs_ => Or.elim hs_ (fun e_ => (hk_.1.2.2.2.1) e_) (fun e_ => Or.elim e_ (fun e_ => (hk_.1.2.2.2.2) e_) (fun e_ => (hk_.2) e_)))) (fun k_ hk_ => ⟨hk_.1.1.1, hk_.1.1.2.1, hk_.1.1.2.2.1, hk_.1.1.2.2.2.1, hk_.1.1.2.2.2.2⟩)); have n2_ := Aside0.mk (Kd.R_mono (ok' := fun k_ => some k_ ≠ (.slice Ao36 t342.length co36 : Value).ownBlock ∧ some k_ ≠ (.slice Ao45 t321.length co45 : Value).ownBlock) (Kd.R_keptB ((Kd.R_apart' (Kd.R_apart' HO_301004.out (Kd.R_typed HO_326001.out) (by decide)) (Kd.R_typed HO_326002.out) (by decide))) hkp (fun k_ hk_ hs_ => Or.elim hs_ (fun e_ => (hk_.1.2) e_) (fun e_ => Or.elim e_ (fun e_ => (hk_.2) e_) (fun e_ => (hk_.1.1.2) e_)))) (fun k_ hk_ => ⟨hk_.1.1.1.1, hk_.1.1.1.2⟩)); have n3_ := Aside0.mk (Kd.R_mono (ok' := fun k_ => some k_ ≠ (.slice Ao25 t289.length co25 : Value).ownBlock ∧ some k_ ≠ (.slice Ao26 t292.length co26 : Value).ownBlock ∧ some k_ ≠ (.slice Ao35 t341.length co35 : Value).ownBlock ∧ some k_ ≠ (.slice Ao43 t314.length co43 : Value).ownBlock ∧ some k_ ≠ (.slice Ao44 t317.length co44 : Value).ownBlock) (Kd.R_keptB ((Kd.R_apart' HO_313001.out (Kd.R_typed HO_326004.out) (by decide))) hkp (fun k_ hk_ hs_ => Or.elim hs_ (fun e_ => (hk_.1.2.2.2.1) e_) (fun e_ => Or.elim e_ (fun e_ => (hk_.1.2.2.2.2) e_) (fun e_ => (hk_.2) e_)))) (fun k_ hk_ => ⟨hk_.1.1.1, hk_.1.1.2.1, hk_.1.1.2.2.1, hk_.1.1.2.2.2.1, hk_.1.1.2.2.2.2⟩)); have n4_ := Aside0.mk (Kd.R_mono (ok' := fun k_ => some k_ ≠ (.slice Ao25 t289.length co25 : Value).ownBlock ∧ some k_ ≠ (.slice Ao26 t292.length co26 : Value).ownBlock ∧ some k_ ≠ (.slice Ao34 t340.length co34 : Value).ownBlock ∧ some k_ ≠ (.slice Ao43 t314.length co43 : Value).ownBlock ∧ some k_ ≠ (.slice Ao44 t317.length co44 : Value).ownBlock) (Kd.R_keptB ((Kd.R_apart' HO_313002.out (Kd.R_typed HO_326004.out) (by decide))) hkp (fun k_ hk_ hs_ => Or.elim hs_ (fun e_ => (hk_.1.2.2.2.1) e_) (fun e_ => Or.elim e_ (fun e_ => (hk_.1.2.2.2.2) e_) (fun e_ => (hk_.2) e_)))) (fun k_ hk_ => ⟨hk_.1.1.1, hk_.1.1.2.1, hk_.1.1.2.2.1, hk_.1.1.2.2.2.1, hk_.1.1.2.2.2.2⟩)); have n5_ := Aside0.mk (Kd.R_mono (ok' := fun k_ => some k_ ≠ (.slice Ao27 t296.length co27 : Value).ownBlock ∧ some k_ ≠ (.slice Ao45 t321.length co45 : Value).ownBlock) (Kd.R_keptB ((Kd.R_apart' (Kd.R_apart' HO_313004.out (Kd.R_typed HO_326001.out) (by decide)) (Kd.R_typed HO_326002.out) (by decide))) hkp (fun k_ hk_ hs_ => Or.elim hs_ (fun e_ => (hk_.1.2) e_) (fun e_ => Or.elim e_ (fun e_ => (hk_.2) e_) (fun e_ => (hk_.1.1.2) e_)))) (fun k_ hk_ => ⟨hk_.1.1.1.1, hk_.1.1.1.2⟩)); have n6_ := Aside0.mk (Kd.R_reok rfl hy0 (fun k_ e_ => HO_326001.out.1 k_ e_)); have n7_ := Aside0.mk (Kd.R_reok rfl hy1 (fun k_ e_ => HO_326002.out.1 k_ e_)); have n8_ := Aside0.mk (Kd.R_reok rfl hy2 (fun k_ e_ => HO_326004.out.1 k_ e_)); have n9_ := Aside0.mk (blk_kept bk_ hkp (fun hs_ => Or.elim hs_ (fun e_ => (fun e_ => (Kd.R_ne HO_326001.out BK275.out (by decide)) e_) e_) (fun e_ => Or.elim e_ (fun e_ => (fun e_ => (Kd.R_ne HO_326002.out BK275.out (by decide)) e_) e_) (fun e_ => (fun e_ => (Kd.R_ne HO_326004.out BK275.out (by decide)) e_) e_)))); have n10_ := Aside0.mk (blk_kept bk_ hkp (fun hs_ => Or.elim hs_ (fun e_ => (fun e_ => (Kd.R_ne HO_326001.out BK300.out (by decide)) e_) e_) (fun e_ => Or.elim e_ (fun e_ => (fun e_ => (Kd.R_ne HO_326002.out BK300.out (by decide)) e_) e_) (fun e_ => (fun e_ => (Kd.R_ne HO_326004.out BK300.out (by decide)) e_) e_)))); have n11_ := Aside0.mk (blk_kept bk_ hkp (fun hs_ => Or.elim hs_ (fun e_ => (fun e_ => (Kd.R_ne HO_326001.out BK312.out (by decide)) e_) e_) (fun e_ => Or.elim e_ (fun e_ => (fun e_ => (Kd.R_ne HO_326002.out BK312.out (by decide)) e_) e_) (fun e_ => (fun e_ => (Kd.R_ne HO_326004.out BK312.out (by decide)) e_) e_)))); have n12_ := Aside0.mk (blk_kept bk_ hkp (fun hs_ => Or.elim hs_ (fun e_ => (fun e_ => (Kd.R_ne HO_326001.out BK325.out (by decide)) e_) e_) (fun e_ => Or.elim e_ (fun e_ => (fun e_ => (Kd.R_ne HO_326002.out BK325.out (by decide)) e_) e_) (fun e_ => (fun e_ => (Kd.R_ne HO_326004.out BK325.out (by decide)) e_) e_)))); have n13_ := Aside0.mk (hb); clear HO_301001; clear HO_301002; clear HO_301004; clear HO_313001; clear HO_313002; clear HO_313004; clear HO_326001; clear HO_326002; clear HO_326004; clear BK275; clear BK300; clear BK312; clear BK325; clear HB; have HO_301001 := n0_; have HO_301002 := n1_; have HO_301004 := n2_; have HO_313001 := n3_; have HO_313002 := n4_; have HO_313004 := n5_; have HO_326001 := n6_; have HO_326002 := n7_; have HO_326004 := n8_; have BK275 := n9_; have BK300 := n10_; have BK312 := n11_; have BK325 := n12_; have HB := n13_; clear n0_ n1_ n2_ n3_ n4_ n5_ n6_ n7_ n8_ n9_ n10_ n11_ n12_ n13_; (try clear hb); (try clear hkp); (try clear hy0); (try clear hy1); (try clear hy2); have hcz120_0 : w119.cell? ⟨gb325, 0, none⟩ = some (.int .i64 t313) := (blk_cell BK325.out 0).trans rfl; have hcz120_1 : w119.cell? ⟨gb325, 1, none⟩ = some (.slice Ao43 t314.length co43) := (blk_cell BK325.out 1).trans rfl; have hcz120_2 : w119.cell? ⟨gb325, 2, none⟩ = some (.slice Ao44 t317.length co44) := (blk_cell BK325.out 2).trans rfl; have hcz120_3 : w119.cell? ⟨gb325, 3, none⟩ = some (.int .i64 t320) := (blk_cell BK325.out 3).trans rfl; have hcz120_4 : w119.cell? ⟨gb325, 4, none⟩ = some (.slice Ao45 t321.length co45) := (blk_cell BK325.out 4).trans rfl; have hfz120_0 := blk_frozen BK325.out 0; have hfz120_1 := blk_frozen BK325.out 1; have hfz120_2 := blk_frozen BK325.out 2; have hfz120_3 := blk_frozen BK325.out 3; have hfz120_4 := blk_frozen BK325.out 4) | ((with_reducible refine gate_callee (f := 11) rfl ?_); refine goesL_ (some 71) rfl rfl Try.func11 (by kernel_rfl) rfl #[.agg #[.int .i64 t313, .slice Ao43 t345.length co43, .slice Ao44 t346.length co44, .int .i64 t320, .slice Ao45 t347.length co45], .int .i64 1] rfl (by (try simp only [List.map_toArray, List.map_cons, List.map_nil]); first | done | (rw [show t345.length = t314.length from (Kd.R_reads' HO_326001.out).1.symm, show t346.length = t317.length from (Kd.R_reads' HO_326002.out).1.symm, show t347.length = t321.length from (Kd.R_reads' HO_326004.out).1.symm] <;> rfl) | rfl | (simp only [List.length_drop, List.length_take]; rfl)) ?_; (with_reducible refine (laws_heldCelCell.calls kj68 t313 _ _ t345 _ _ t346 t320 _ _ t347 1 t348 _ ?side1 ?side2 ?side3 ?side4 ?side5 ?side6 A102.out).mono ?_); (case side1 => repeat (first | exact (Kd.R_reads' HO_326001.out).2.2 | (with_reducible refine Kd.C_alloc ?_ _) | (with_reducible refine Kd.C_drewN ?_ _) | (with_reducible refine Kd.C_drew ?_))); (case side2 => rw [show t345.length = t314.length from (Kd.R_reads' HO_326001.out).1.symm]; exact (Kd.R_reads' HO_326001.out).2.1); (case side3 => repeat (first | exact (Kd.R_reads' HO_326002.out).2.2 | (with_reducible refine Kd.C_alloc ?_ _) | (with_reducible refine Kd.C_drewN ?_ _) | (with_reducible refine Kd.C_drew ?_))); (case side4 => rw [show t346.length = t317.length from (Kd.R_reads' HO_326002.out).1.symm]; exact (Kd.R_reads' HO_326002.out).2.1); (case side5 => repeat (first | exact (Kd.R_reads' HO_326004.out).2.2 | (with_reducible refine Kd.C_alloc ?_ _) | (with_reducible refine Kd.C_drewN ?_ _) | (with_reducible refine Kd.C_drew ?_))); (case side6 => rw [show t347.length = t321.length from (Kd.R_reads' HO_326004.out).1.symm]; exact (Kd.R_reads' HO_326004.out).2.1); rintro e w121 ⟨rfl, hb⟩; refine ⟨_, rfl, ?_⟩; have n0_ := Aside0.mk (Kd.R_below (by (with_reducible repeat (first | apply Kd.R_alloc | apply Kd.R_drewN | apply Kd.R_drew)); exact HO_301001.out) hb); have n1_ := Aside0.mk (Kd.R_below (by (with_reducible repeat (first | apply Kd.R_alloc | apply Kd.R_drewN | apply Kd.R_drew)); exact HO_301002.out) hb); have n2_ := Aside0.mk (Kd.R_below (by (with_reducible repeat (first | apply Kd.R_alloc | apply Kd.R_drewN | apply Kd.R_drew)); exact HO_301004.out) hb); have n3_ := Aside0.mk (Kd.R_below (by (with_reducible repeat (first | apply Kd.R_alloc | apply Kd.R_drewN | apply Kd.R_drew)); exact HO_313001.out) hb); have n4_ := Aside0.mk (Kd.R_below (by (with_reducible repeat (first | apply Kd.R_alloc | apply Kd.R_drewN | apply Kd.R_drew)); exact HO_313002.out) hb); have n5_ := Aside0.mk (Kd.R_below (by (with_reducible repeat (first | apply Kd.R_alloc | apply Kd.R_drewN | apply Kd.R_drew)); exact HO_313004.out) hb); have n6_ := Aside0.mk (Kd.R_below (by (with_reducible repeat (first | apply Kd.R_alloc | apply Kd.R_drewN | apply Kd.R_drew)); exact HO_326001.out) hb); have n7_ := Aside0.mk (Kd.R_below (by (with_reducible repeat (first | apply Kd.R_alloc | apply Kd.R_drewN | apply Kd.R_drew)); exact HO_326002.out) hb); have n8_ := Aside0.mk (Kd.R_below (by (with_reducible repeat (first | apply Kd.R_alloc | apply Kd.R_drewN | apply Kd.R_drew)); exact HO_326004.out) hb); have n9_ := Aside0.mk (blk_below (g := gb275) (o := .cells #[.int .i64 a0_0, .slice A0_1 l0_1.length c0_1, .slice A0_2 l0_2.length c0_2, .int .i64 a0_3, .slice A0_4 l0_4.length c0_4] 27 (0, 0)) bk_ hb); have n10_ := Aside0.mk (blk_below (g := gb300) (o := .cells #[.int .i64 t288, .slice Ao25 t289.length co25, .slice Ao26 t292.length co26, .int .i64 t295, .slice Ao27 t296.length co27] 31 (0, 0)) bk_ hb); have n11_ := Aside0.mk (blk_below (g := gb312) (o := .cells #[.int .i64 t301, .slice Ao34 t340.length co34, .slice Ao35 t341.length co35, .int .i64 t308, .slice Ao36 t342.length co36] 31 (0, 0)) bk_ hb); have n12_ := Aside0.mk (blk_below (g := gb325) (o := .cells #[.int .i64 t313, .slice Ao43 t314.length co43, .slice Ao44 t317.length co44, .int .i64 t320, .slice Ao45 t321.length co45] 31 (0, 0)) bk_ hb); have n13_ := Aside0.mk (below_step hb_ hb); clear HO_301001; clear HO_301002; clear HO_301004; clear HO_313001; clear HO_313002; clear HO_313004; clear HO_326001; clear HO_326002; clear HO_326004; clear BK275; clear BK300; clear BK312; clear BK325; clear HB; have HO_301001 := n0_; have HO_301002 := n1_; have HO_301004 := n2_; have HO_313001 := n3_; have HO_313002 := n4_; have HO_313004 := n5_; have HO_326001 := n6_; have HO_326002 := n7_; have HO_326004 := n8_; have BK275 := n9_; have BK300 := n10_; have BK312 := n11_; have BK325 := n12_; have HB := n13_; clear n0_ n1_ n2_ n3_ n4_ n5_ n6_ n7_ n8_ n9_ n10_ n11_ n12_ n13_; (try clear hb); (try clear hb2); (try clear hk); (try clear hi); have hnb122 := NB275_300.out; have hnc122 := NB300_275.out; have hnb123 := NB275_312.out; have hnc123 := NB312_275.out; have hcz124_0 : w121.cell? ⟨gb275, 0, none⟩ = some (.int .i64 a0_0) := (blk_cell BK275.out 0).trans rfl; have hcz124_1 : w121.cell? ⟨gb275, 1, none⟩ = some (.slice A0_1 l0_1.length c0_1) := (blk_cell BK275.out 1).trans rfl; have hcz124_2 : w121.cell? ⟨gb275, 2, none⟩ = some (.slice A0_2 l0_2.length c0_2) := (blk_cell BK275.out 2).trans rfl; have hcz124_3 : w121.cell? ⟨gb275, 3, none⟩ = some (.int .i64 a0_3) := (blk_cell BK275.out 3).trans rfl; have hcz124_4 : w121.cell? ⟨gb275, 4, none⟩ = some (.slice A0_4 l0_4.length c0_4) := (blk_cell BK275.out 4).trans rfl; have hfz124_0 := blk_frozen BK275.out 0; have hfz124_1 := blk_frozen BK275.out 1; have hfz124_2 := blk_frozen BK275.out 2; have hfz124_3 := blk_frozen BK275.out 3; have hfz124_4 := blk_frozen BK275.out 4) | ((with_reducible refine gate_callee (f := 7) rfl ?_); refine goesL_ (some 79) rfl rfl Try.func7 (by kernel_rfl) rfl #[.agg #[.int .i64 a0_0, .slice A0_1 l0_1.length c0_1, .slice A0_2 l0_2.length c0_2, .int .i64 a0_3, .slice A0_4 l0_4.length c0_4]] rfl ml_ ?_; (with_reducible refine (laws_toCelCell.calls kj68 a0_0 _ _ l0_1 _ _ l0_2 a0_3 _ _ l0_4 t349 t350 t353 t356 t357 _ ?side1 ?side2 ?side3 ?side4 ?side5 ?side6 A112.out).mono ?_); (case side1 => repeat (first | exact (Kd.C_below HR0_1.out HB.out) | (with_reducible refine Kd.C_alloc ?_ _) | (with_reducible refine Kd.C_drewN ?_ _) | (with_reducible refine Kd.C_drew ?_))); (case side2 => exact HC0_1.out); (case side3 => repeat (first | exact (Kd.C_below HR0_2.out HB.out) | (with_reducible refine Kd.C_alloc ?_ _) | (with_reducible refine Kd.C_drewN ?_ _) | (with_reducible refine Kd.C_drew ?_))); (case side4 => exact HC0_2.out); (case side5 => repeat (first | exact (Kd.C_below HR0_4.out HB.out) | (with_reducible refine Kd.C_alloc ?_ _) | (with_reducible refine Kd.C_drewN ?_ _) | (with_reducible refine Kd.C_drew ?_))); (case side6 => exact HC0_4.out); rintro e w125 ⟨v351, v354, v358, rfl, ho0, ho1, ho2, hb⟩; refine ⟨_, rfl, ?_⟩; have n0_ := Aside0.mk (Kd.R_mono (Kd.R_told (Kd.R_told (Kd.R_old (by (with_reducible repeat (first | apply Kd.R_alloc | apply Kd.R_drewN | apply Kd.R_drew)); exact HO_301001.out) hb) (Kd.R_base ho0)) (Kd.R_base ho1)) (fun _ h_ => h_.1)); have n1_ := Aside0.mk (Kd.R_mono (Kd.R_told (Kd.R_told (Kd.R_old (by (with_reducible repeat (first | apply Kd.R_alloc | apply Kd.R_drewN | apply Kd.R_drew)); exact HO_301002.out) hb) (Kd.R_base ho0)) (Kd.R_base ho1)) (fun _ h_ => h_.1)); have n2_ := Aside0.mk (Kd.R_elder' (by (with_reducible repeat (first | apply Kd.R_alloc | apply Kd.R_drewN | apply Kd.R_drew)); exact HO_301004.out) (Kd.R_base ho2) hb); have n3_ := Aside0.mk (Kd.R_mono (Kd.R_told (Kd.R_told (Kd.R_old (by (with_reducible repeat (first | apply Kd.R_alloc | apply Kd.R_drewN | apply Kd.R_drew)); exact HO_313001.out) hb) (Kd.R_base ho0)) (Kd.R_base ho1)) (fun _ h_ => h_.1)); have n4_ := Aside0.mk (Kd.R_mono (Kd.R_told (Kd.R_told (Kd.R_old (by (with_reducible repeat (first | apply Kd.R_alloc | apply Kd.R_drewN | apply Kd.R_drew)); exact HO_313002.out) hb) (Kd.R_base ho0)) (Kd.R_base ho1)) (fun _ h_ => h_.1)); have n5_ := Aside0.mk (Kd.R_elder' (by (with_reducible repeat (first | apply Kd.R_alloc | apply Kd.R_drewN | apply Kd.R_drew)); exact HO_313004.out) (Kd.R_base ho2) hb); have n6_ := Aside0.mk (Kd.R_mono (Kd.R_told (Kd.R_told (Kd.R_old (by (with_reducible repeat (first | apply Kd.R_alloc | apply Kd.R_drewN | apply Kd.R_drew)); exact HO_326001.out) hb) (Kd.R_base ho0)) (Kd.R_base ho1)) (fun _ h_ => h_.1)); have n7_ := Aside0.mk (Kd.R_mono (Kd.R_told (Kd.R_told (Kd.R_old (by (with_reducible repeat (first | apply Kd.R_alloc | apply Kd.R_drewN | apply Kd.R_drew)); exact HO_326002.out) hb) (Kd.R_base ho0)) (Kd.R_base ho1)) (fun _ h_ => h_.1)); have n8_ := Aside0.mk (Kd.R_elder' (by (with_reducible repeat (first | apply Kd.R_alloc | apply Kd.R_drewN | apply Kd.R_drew)); exact HO_326004.out) (Kd.R_base ho2) hb); have n9_ := Aside0.mk (Kd.R_lower (Kd.R_new' (Kd.R_new' (Kd.R_new' (Kd.R_new' (Kd.R_new' (Kd.R_new' ho0 (Kd.R_lt (by (with_reducible repeat (first | apply Kd.R_alloc | apply Kd.R_drewN | apply Kd.R_drew)); exact HO_301001.out))) (Kd.R_lt (by (with_reducible repeat (first | apply Kd.R_alloc | apply Kd.R_drewN | apply Kd.R_drew)); exact HO_301002.out))) (Kd.R_lt (by (with_reducible repeat (first | apply Kd.R_alloc | apply Kd.R_drewN | apply Kd.R_drew)); exact HO_313001.out))) (Kd.R_lt (by (with_reducible repeat (first | apply Kd.R_alloc | apply Kd.R_drewN | apply Kd.R_drew)); exact HO_313002.out))) (Kd.R_lt (by (with_reducible repeat (first | apply Kd.R_alloc | apply Kd.R_drewN | apply Kd.R_drew)); exact HO_326001.out))) (Kd.R_lt (by (with_reducible repeat (first | apply Kd.R_alloc | apply Kd.R_drewN | apply Kd.R_drew)); exact HO_326002.out))) (below_size hb_)); have n10_ := Aside0.mk (Kd.R_lower (Kd.R_new' (Kd.R_new' (Kd.R_new' (Kd.R_new' (Kd.R_new' (Kd.R_new' ho1 (Kd.R_lt (by (with_reducible repeat (first | apply Kd.R_alloc | apply Kd.R_drewN | apply Kd.R_drew)); exact HO_301001.out))) (Kd.R_lt (by (with_reducible repeat (first | apply Kd.R_alloc | apply Kd.R_drewN | apply Kd.R_drew)); exact HO_301002.out))) (Kd.R_lt (by (with_reducible repeat (first | apply Kd.R_alloc | apply Kd.R_drewN | apply Kd.R_drew)); exact HO_313001.out))) (Kd.R_lt (by (with_reducible repeat (first | apply Kd.R_alloc | apply Kd.R_drewN | apply Kd.R_drew)); exact HO_313002.out))) (Kd.R_lt (by (with_reducible repeat (first | apply Kd.R_alloc | apply Kd.R_drewN | apply Kd.R_drew)); exact HO_326001.out))) (Kd.R_lt (by (with_reducible repeat (first | apply Kd.R_alloc | apply Kd.R_drewN | apply Kd.R_drew)); exact HO_326002.out))) (below_size hb_)); have n11_ := Aside0.mk (Kd.R_lower (Kd.R_new' (Kd.R_new' (Kd.R_new' ho2 (Kd.R_lt (by (with_reducible repeat (first | apply Kd.R_alloc | apply Kd.R_drewN | apply Kd.R_drew)); exact HO_301004.out))) (Kd.R_lt (by (with_reducible repeat (first | apply Kd.R_alloc | apply Kd.R_drewN | apply Kd.R_drew)); exact HO_313004.out))) (Kd.R_lt (by (with_reducible repeat (first | apply Kd.R_alloc | apply Kd.R_drewN | apply Kd.R_drew)); exact HO_326004.out))) (below_size hb_)); have n12_ := Aside0.mk (blk_below (g := gb275) (o := .cells #[.int .i64 a0_0, .slice A0_1 l0_1.length c0_1, .slice A0_2 l0_2.length c0_2, .int .i64 a0_3, .slice A0_4 l0_4.length c0_4] 27 (0, 0)) bk_ hb); have n13_ := Aside0.mk (blk_below (g := gb300) (o := .cells #[.int .i64 t288, .slice Ao25 t289.length co25, .slice Ao26 t292.length co26, .int .i64 t295, .slice Ao27 t296.length co27] 31 (0, 0)) bk_ hb); have n14_ := Aside0.mk (blk_below (g := gb312) (o := .cells #[.int .i64 t301, .slice Ao34 t340.length co34, .slice Ao35 t341.length co35, .int .i64 t308, .slice Ao36 t342.length co36] 31 (0, 0)) bk_ hb); have n15_ := Aside0.mk (blk_below (g := gb325) (o := .cells #[.int .i64 t313, .slice Ao43 t314.length co43, .slice Ao44 t317.length co44, .int .i64 t320, .slice Ao45 t321.length co45] 31 (0, 0)) bk_ hb); have n16_ := Aside0.mk (below_step hb_ hb); clear HO_301001; clear HO_301002; clear HO_301004; clear HO_313001; clear HO_313002; clear HO_313004; clear HO_326001; clear HO_326002; clear HO_326004; clear BK275; clear BK300; clear BK312; clear BK325; clear HB; have HO_301001 := n0_; have HO_301002 := n1_; have HO_301004 := n2_; have HO_313001 := n3_; have HO_313002 := n4_; have HO_313004 := n5_; have HO_326001 := n6_; have HO_326002 := n7_; have HO_326004 := n8_; have HO352 := n9_; have HO355 := n10_; have HO359 := n11_; have BK275 := n12_; have BK300 := n13_; have BK312 := n14_; have BK325 := n15_; have HB := n16_; clear n0_ n1_ n2_ n3_ n4_ n5_ n6_ n7_ n8_ n9_ n10_ n11_ n12_ n13_ n14_ n15_ n16_; (try clear hb); (try clear hb2); (try clear hk); (try clear hi); (try clear ho0); (try clear ho1); (try clear ho2); obtain ⟨Ao126, co126, eo126⟩ := Kd.R_slice HO352.out; subst eo126; obtain ⟨Ao127, co127, eo127⟩ := Kd.R_slice HO355.out; subst eo127; obtain ⟨Ao128, co128, eo128⟩ := Kd.R_slice HO359.out; subst eo128) | ((with_reducible refine gate_callee (f := 8) rfl ?_); refine goesL_ (some 81) rfl rfl Try.func8 (by kernel_rfl) rfl #[.agg #[.int .i64 t349, .slice Ao126 t350.length co126, .slice Ao127 t353.length co127, .int .i64 t356, .slice Ao128 t357.length co128], .int .i64 a1] rfl ml_ ?_; (with_reducible refine (impl_CelInput.calls kj68 t349 _ _ t350 _ _ t353 t356 _ _ t357 a1 t360 t361 t364 t367 t368 t371 _ ?side1 ?side2 ?side3 ?side4 ?side5 ?side6 A113.out).mono ?_); (case side1 => repeat (first | exact (Kd.R_reads' HO352.out).2.2 | (with_reducible refine Kd.C_alloc ?_ _) | (with_reducible refine Kd.C_drewN ?_ _) | (with_reducible refine Kd.C_drew ?_))); (case side2 => exact (Kd.R_reads' HO352.out).2.1); (case side3 => repeat (first | exact (Kd.R_reads' HO355.out).2.2 | (with_reducible refine Kd.C_alloc ?_ _) | (with_reducible refine Kd.C_drewN ?_ _) | (with_reducible refine Kd.C_drew ?_))); (case side4 => exact (Kd.R_reads' HO355.out).2.1); (case side5 => repeat (first | exact (Kd.R_reads' HO359.out).2.2 | (with_reducible refine Kd.C_alloc ?_ _) | (with_reducible refine Kd.C_drewN ?_ _) | (with_reducible refine Kd.C_drew ?_))); (case side6 => exact (Kd.R_reads' HO359.out).2.1); rintro e w129 ⟨v362, v365, v369, rfl, ho0, ho1, ho2, hb⟩; refine ⟨_, rfl, ?_⟩; have n0_ := Aside0.mk (Kd.R_mono (Kd.R_told (Kd.R_told (Kd.R_old (by (with_reducible repeat (first | apply Kd.R_alloc | apply Kd.R_drewN | apply Kd.R_drew)); exact HO_301001.out) hb) (Kd.R_base ho0)) (Kd.R_base ho1)) (fun _ h_ => h_.1)); have n1_ := Aside0.mk (Kd.R_mono (Kd.R_told (Kd.R_told (Kd.R_old (by (with_reducible repeat (first | apply Kd.R_alloc | apply Kd.R_drewN | apply Kd.R_drew)); exact HO_301002.out) hb) (Kd.R_base ho0)) (Kd.R_base ho1)) (fun _ h_ => h_.1)); have n2_ := Aside0.mk (Kd.R_elder' (by (with_reducible repeat (first | apply Kd.R_alloc | apply Kd.R_drewN | apply Kd.R_drew)); exact HO_301004.out) (Kd.R_base ho2) hb); have n3_ := Aside0.mk (Kd.R_mono (Kd.R_told (Kd.R_told (Kd.R_old (by (with_reducible repeat (first | apply Kd.R_alloc | apply Kd.R_drewN | apply Kd.R_drew)); exact HO_313001.out) hb) (Kd.R_base ho0)) (Kd.R_base ho1)) (fun _ h_ => h_.1)); have n4_ := Aside0.mk (Kd.R_mono (Kd.R_told (Kd.R_told (Kd.R_old (by (with_reducible repeat (first | apply Kd.R_alloc | apply Kd.R_drewN | apply Kd.R_drew)); exact HO_313002.out) hb) (Kd.R_base ho0)) (Kd.R_base ho1)) (fun _ h_ => h_.1)); have n5_ := Aside0.mk (Kd.R_elder' (by (with_reducible repeat (first | apply Kd.R_alloc | apply Kd.R_drewN | apply Kd.R_drew)); exact HO_313004.out) (Kd.R_base ho2) hb); have n6_ := Aside0.mk (Kd.R_mono (Kd.R_told (Kd.R_told (Kd.R_old (by (with_reducible repeat (first | apply Kd.R_alloc | apply Kd.R_drewN | apply Kd.R_drew)); exact HO_326001.out) hb) (Kd.R_base ho0)) (Kd.R_base ho1)) (fun _ h_ => h_.1)); have n7_ := Aside0.mk (Kd.R_mono (Kd.R_told (Kd.R_told (Kd.R_old (by (with_reducible repeat (first | apply Kd.R_alloc | apply Kd.R_drewN | apply Kd.R_drew)); exact HO_326002.out) hb) (Kd.R_base ho0)) (Kd.R_base ho1)) (fun _ h_ => h_.1)); have n8_ := Aside0.mk (Kd.R_elder' (by (with_reducible repeat (first | apply Kd.R_alloc | apply Kd.R_drewN | apply Kd.R_drew)); exact HO_326004.out) (Kd.R_base ho2) hb); have n9_ := Aside0.mk (Kd.R_mono (Kd.R_told (Kd.R_told (Kd.R_old (by (with_reducible repeat (first | apply Kd.R_alloc | apply Kd.R_drewN | apply Kd.R_drew)); exact HO352.out) hb) (Kd.R_base ho0)) (Kd.R_base ho1)) (fun _ h_ => h_.1)); have n10_ := Aside0.mk (Kd.R_mono (Kd.R_told (Kd.R_told (Kd.R_old (by (with_reducible repeat (first | apply Kd.R_alloc | apply Kd.R_drewN | apply Kd.R_drew)); exact HO355.out) hb) (Kd.R_base ho0)) (Kd.R_base ho1)) (fun _ h_ => h_.1)); have n11_ := Aside0.mk (Kd.R_elder' (by (with_reducible repeat (first | apply Kd.R_alloc | apply Kd.R_drewN | apply Kd.R_drew)); exact HO359.out) (Kd.R_base ho2) hb); have n12_ := Aside0.mk (Kd.R_lower (Kd.R_new' (Kd.R_new' (Kd.R_new' (Kd.R_new' (Kd.R_new' (Kd.R_new' (Kd.R_new' (Kd.R_new' ho0 (Kd.R_lt (by (with_reducible repeat (first | apply Kd.R_alloc | apply Kd.R_drewN | apply Kd.R_drew)); exact HO_301001.out))) (Kd.R_lt (by (with_reducible repeat (first | apply Kd.R_alloc | apply Kd.R_drewN | apply Kd.R_drew)); exact HO_301002.out))) (Kd.R_lt (by (with_reducible repeat (first | apply Kd.R_alloc | apply Kd.R_drewN | apply Kd.R_drew)); exact HO_313001.out))) (Kd.R_lt (by (with_reducible repeat (first | apply Kd.R_alloc | apply Kd.R_drewN | apply Kd.R_drew)); exact HO_313002.out))) (Kd.R_lt (by (with_reducible repeat (first | apply Kd.R_alloc | apply Kd.R_drewN | apply Kd.R_drew)); exact HO_326001.out))) (Kd.R_lt (by (with_reducible repeat (first | apply Kd.R_alloc | apply Kd.R_drewN | apply Kd.R_drew)); exact HO_326002.out))) (Kd.R_lt (by (with_reducible repeat (first | apply Kd.R_alloc | apply Kd.R_drewN | apply Kd.R_drew)); exact HO352.out))) (Kd.R_lt (by (with_reducible repeat (first | apply Kd.R_alloc | apply Kd.R_drewN | apply Kd.R_drew)); exact HO355.out))) (below_size hb_)); have n13_ := Aside0.mk (Kd.R_lower (Kd.R_new' (Kd.R_new' (Kd.R_new' (Kd.R_new' (Kd.R_new' (Kd.R_new' (Kd.R_new' (Kd.R_new' ho1 (Kd.R_lt (by (with_reducible repeat (first | apply Kd.R_alloc | apply Kd.R_drewN | apply Kd.R_drew)); exact HO_301001.out))) (Kd.R_lt (by (with_reducible repeat (first | apply Kd.R_alloc | apply Kd.R_drewN | apply Kd.R_drew)); exact HO_301002.out))) (Kd.R_lt (by (with_reducible repeat (first | apply Kd.R_alloc | apply Kd.R_drewN | apply Kd.R_drew)); exact HO_313001.out))) (Kd.R_lt (by (with_reducible repeat (first | apply Kd.R_alloc | apply Kd.R_drewN | apply Kd.R_drew)); exact HO_313002.out))) (Kd.R_lt (by (with_reducible repeat (first | apply Kd.R_alloc | apply Kd.R_drewN | apply Kd.R_drew)); exact HO_326001.out))) (Kd.R_lt (by (with_reducible repeat (first | apply Kd.R_alloc | apply Kd.R_drewN | apply Kd.R_drew)); exact HO_326002.out))) (Kd.R_lt (by (with_reducible repeat (first | apply Kd.R_alloc | apply Kd.R_drewN | apply Kd.R_drew)); exact HO352.out))) (Kd.R_lt (by (with_reducible repeat (first | apply Kd.R_alloc | apply Kd.R_drewN | apply Kd.R_drew)); exact HO355.out))) (below_size hb_)); have n14_ := Aside0.mk (Kd.R_lower (Kd.R_new' (Kd.R_new' (Kd.R_new' (Kd.R_new' ho2 (Kd.R_lt (by (with_reducible repeat (first | apply Kd.R_alloc | apply Kd.R_drewN | apply Kd.R_drew)); exact HO_301004.out))) (Kd.R_lt (by (with_reducible repeat (first | apply Kd.R_alloc | apply Kd.R_drewN | apply Kd.R_drew)); exact HO_313004.out))) (Kd.R_lt (by (with_reducible repeat (first | apply Kd.R_alloc | apply Kd.R_drewN | apply Kd.R_drew)); exact HO_326004.out))) (Kd.R_lt (by (with_reducible repeat (first | apply Kd.R_alloc | apply Kd.R_drewN | apply Kd.R_drew)); exact HO359.out))) (below_size hb_)); have n15_ := Aside0.mk (blk_below (g := gb275) (o := .cells #[.int .i64 a0_0, .slice A0_1 l0_1.length c0_1, .slice A0_2 l0_2.length c0_2, .int .i64 a0_3, .slice A0_4 l0_4.length c0_4] 27 (0, 0)) bk_ hb); have n16_ := Aside0.mk (blk_below (g := gb300) (o := .cells #[.int .i64 t288, .slice Ao25 t289.length co25, .slice Ao26 t292.length co26, .int .i64 t295, .slice Ao27 t296.length co27] 31 (0, 0)) bk_ hb); have n17_ := Aside0.mk (blk_below (g := gb312) (o := .cells #[.int .i64 t301, .slice Ao34 t340.length co34, .slice Ao35 t341.length co35, .int .i64 t308, .slice Ao36 t342.length co36] 31 (0, 0)) bk_ hb); have n18_ := Aside0.mk (blk_below (g := gb325) (o := .cells #[.int .i64 t313, .slice Ao43 t314.length co43, .slice Ao44 t317.length co44, .int .i64 t320, .slice Ao45 t321.length co45] 31 (0, 0)) bk_ hb); have n19_ := Aside0.mk (below_step hb_ hb); clear HO_301001; clear HO_301002; clear HO_301004; clear HO_313001; clear HO_313002; clear HO_313004; clear HO_326001; clear HO_326002; clear HO_326004; clear HO352; clear HO355; clear HO359; clear BK275; clear BK300; clear BK312; clear BK325; clear HB; have HO_301001 := n0_; have HO_301002 := n1_; have HO_301004 := n2_; have HO_313001 := n3_; have HO_313002 := n4_; have HO_313004 := n5_; have HO_326001 := n6_; have HO_326002 := n7_; have HO_326004 := n8_; have HO352 := n9_; have HO355 := n10_; have HO359 := n11_; have HO363 := n12_; have HO366 := n13_; have HO370 := n14_; have BK275 := n15_; have BK300 := n16_; have BK312 := n17_; have BK325 := n18_; have HB := n19_; clear n0_ n1_ n2_ n3_ n4_ n5_ n6_ n7_ n8_ n9_ n10_ n11_ n12_ n13_ n14_ n15_ n16_ n17_ n18_ n19_; (try clear hb); (try clear hb2); (try clear hk); (try clear hi); (try clear ho0); (try clear ho1); (try clear ho2)) | ((with_reducible refine gate_dst (N := 14) rfl ?_); refine bx_ (N := 14) (cs := #[.int .i64 0, .slice none 0 0, .slice none 0 0, .int .i64 0, .slice none 0 0]) (t := 31) ?_; intro gb372 hg w130 hbox hb; have n0_ := Aside0.mk (Kd.R_below (by (with_reducible repeat (first | apply Kd.R_alloc | apply Kd.R_drewN | apply Kd.R_drew)); exact HO_301001.out) hb); have n1_ := Aside0.mk (Kd.R_below (by (with_reducible repeat (first | apply Kd.R_alloc | apply Kd.R_drewN | apply Kd.R_drew)); exact HO_301002.out) hb); have n2_ := Aside0.mk (Kd.R_below (by (with_reducible repeat (first | apply Kd.R_alloc | apply Kd.R_drewN | apply Kd.R_drew)); exact HO_301004.out) hb); have n3_ := Aside0.mk (Kd.R_below (by (with_reducible repeat (first | apply Kd.R_alloc | apply Kd.R_drewN | apply Kd.R_drew)); exact HO_313001.out) hb); have n4_ := Aside0.mk (Kd.R_below (by (with_reducible repeat (first | apply Kd.R_alloc | apply Kd.R_drewN | apply Kd.R_drew)); exact HO_313002.out) hb); have n5_ := Aside0.mk (Kd.R_below (by (with_reducible repeat (first | apply Kd.R_alloc | apply Kd.R_drewN | apply Kd.R_drew)); exact HO_313004.out) hb); have n6_ := Aside0.mk (Kd.R_below (by (with_reducible repeat (first | apply Kd.R_alloc | apply Kd.R_drewN | apply Kd.R_drew)); exact HO_326001.out) hb); have n7_ := Aside0.mk (Kd.R_below (by (with_reducible repeat (first | apply Kd.R_alloc | apply Kd.R_drewN | apply Kd.R_drew)); exact HO_326002.out) hb); have n8_ := Aside0.mk (Kd.R_below (by (with_reducible repeat (first | apply Kd.R_alloc | apply Kd.R_drewN | apply Kd.R_drew)); exact HO_326004.out) hb); have n9_ := Aside0.mk (Kd.R_below (by (with_reducible repeat (first | apply Kd.R_alloc | apply Kd.R_drewN | apply Kd.R_drew)); exact HO352.out) hb); have n10_ := Aside0.mk (Kd.R_below (by (with_reducible repeat (first | apply Kd.R_alloc | apply Kd.R_drewN | apply Kd.R_drew)); exact HO355.out) hb); have n11_ := Aside0.mk (Kd.R_below (by (with_reducible repeat (first | apply Kd.R_alloc | apply Kd.R_drewN | apply Kd.R_drew)); exact HO359.out) hb); have n12_ := Aside0.mk (Kd.R_below (by (with_reducible repeat (first | apply Kd.R_alloc | apply Kd.R_drewN | apply Kd.R_drew)); exact HO363.out) hb); have n13_ := Aside0.mk (Kd.R_below (by (with_reducible repeat (first | apply Kd.R_alloc | apply Kd.R_drewN | apply Kd.R_drew)); exact HO366.out) hb); have n14_ := Aside0.mk (Kd.R_below (by (with_reducible repeat (first | apply Kd.R_alloc | apply Kd.R_drewN | apply Kd.R_drew)); exact HO370.out) hb); have n15_ := Aside0.mk (blk_below (g := gb275) (o := .cells #[.int .i64 a0_0, .slice A0_1 l0_1.length c0_1, .slice A0_2 l0_2.length c0_2, .int .i64 a0_3, .slice A0_4 l0_4.length c0_4] 27 (0, 0)) bk_ hb); have n16_ := Aside0.mk (blk_below (g := gb300) (o := .cells #[.int .i64 t288, .slice Ao25 t289.length co25, .slice Ao26 t292.length co26, .int .i64 t295, .slice Ao27 t296.length co27] 31 (0, 0)) bk_ hb); have n17_ := Aside0.mk (blk_below (g := gb312) (o := .cells #[.int .i64 t301, .slice Ao34 t340.length co34, .slice Ao35 t341.length co35, .int .i64 t308, .slice Ao36 t342.length co36] 31 (0, 0)) bk_ hb); have n18_ := Aside0.mk (blk_below (g := gb325) (o := .cells #[.int .i64 t313, .slice Ao43 t314.length co43, .slice Ao44 t317.length co44, .int .i64 t320, .slice Ao45 t321.length co45] 31 (0, 0)) bk_ hb); have n19_ := Aside0.mk (below_step hb_ hb); have n20_ := Aside0.mk (hbox); have n21_ := Aside0.mk ((hg_ : w.heap.size ≤ gb372)); have n22_ := Aside0.mk ((hg_ : w.heap.size ≤ gb372)); have n23_ := Aside0.mk ((nl_ : gb275 ≠ gb372)); have n24_ := Aside0.mk ((ng_ : gb372 ≠ gb275)); have n25_ := Aside0.mk ((nl_ : gb300 ≠ gb372)); have n26_ := Aside0.mk ((ng_ : gb372 ≠ gb300)); have n27_ := Aside0.mk ((nl_ : gb312 ≠ gb372)); have n28_ := Aside0.mk ((ng_ : gb372 ≠ gb312)); have n29_ := Aside0.mk ((nl_ : gb325 ≠ gb372)); have n30_ := Aside0.mk ((ng_ : gb372 ≠ gb325)); clear HO_301001; clear HO_301002; clear HO_301004; clear HO_313001; clear HO_313002; clear HO_313004; clear HO_326001; clear HO_326002; clear HO_326004; clear HO352; clear HO355; clear HO359; clear HO363; clear HO366; clear HO370; clear BK275; clear BK300; clear BK312; clear BK325; clear HB; have HO_301001 := n0_; have HO_301002 := n1_; have HO_301004 := n2_; have HO_313001 := n3_; have HO_313002 := n4_; have HO_313004 := n5_; have HO_326001 := n6_; have HO_326002 := n7_; have HO_326004 := n8_; have HO352 := n9_; have HO355 := n10_; have HO359 := n11_; have HO363 := n12_; have HO366 := n13_; have HO370 := n14_; have BK275 := n15_; have BK300 := n16_; have BK312 := n17_; have BK325 := n18_; have HB := n19_; have BK372 := n20_; have GW372 := n21_; have GE372 := n22_; have NB275_372 := n23_; have NB372_275 := n24_; have NB300_372 := n25_; have NB372_300 := n26_; have NB312_372 := n27_; have NB372_312 := n28_; have NB325_372 := n29_; have NB372_325 := n30_; clear n0_ n1_ n2_ n3_ n4_ n5_ n6_ n7_ n8_ n9_ n10_ n11_ n12_ n13_ n14_ n15_ n16_ n17_ n18_ n19_ n20_ n21_ n22_ n23_ n24_ n25_ n26_ n27_ n28_ n29_ n30_; clear hb hbox hg; have hnb131 := NB372_275.out; have hnc131 := NB275_372.out; have hnb132 := NB372_300.out; have hnc132 := NB300_372.out; have hnb133 := NB372_312.out; have hnc133 := NB312_372.out; have hnb134 := NB372_325.out; have hnc134 := NB325_372.out; have hcz135_0 : w130.cell? ⟨gb372, 0, none⟩ = some (.int .i64 0) := (blk_cell BK372.out 0).trans rfl; have hcz135_1 : w130.cell? ⟨gb372, 1, none⟩ = some (.slice none 0 0) := (blk_cell BK372.out 1).trans rfl; have hcz135_2 : w130.cell? ⟨gb372, 2, none⟩ = some (.slice none 0 0) := (blk_cell BK372.out 2).trans rfl; have hcz135_3 : w130.cell? ⟨gb372, 3, none⟩ = some (.int .i64 0) := (blk_cell BK372.out 3).trans rfl; have hcz135_4 : w130.cell? ⟨gb372, 4, none⟩ = some (.slice none 0 0) := (blk_cell BK372.out 4).trans rfl; have hfz135_0 := blk_frozen BK372.out 0; have hfz135_1 := blk_frozen BK372.out 1; have hfz135_2 := blk_frozen BK372.out 2; have hfz135_3 := blk_frozen BK372.out 3; have hfz135_4 := blk_frozen BK372.out 4; obtain ⟨Ao136, co136, eo136⟩ := Kd.R_slice HO363.out; subst eo136; obtain ⟨Ao137, co137, eo137⟩ := Kd.R_slice HO366.out; subst eo137; obtain ⟨Ao138, co138, eo138⟩ := Kd.R_slice HO370.out; subst eo138))
                      (try simp only [Act.put, List.setIfInBounds_toArray, List.set_cons_zero, List.set_cons_succ])
                      go_cut [92] (fun v92 wc => ∃ (kq : Nat) (x92_113 : Bool), v92 = .bool x92_113 ∧ Aside0 (laws_FnExactCelInput.j2 kq t344 x92_113 t313 t345 t346 t320 t347 = some r) ∧ Aside0 (kq ≤ kj68) ∧ Aside0 (Kd.R (Kd.int .i64) 3 wc w.heap.size (fun k_ => some k_ ≠ ((.slice Ao26 t292.length co26) : Value).ownBlock ∧ some k_ ≠ ((.slice Ao34 t340.length co34) : Value).ownBlock ∧ some k_ ≠ ((.slice Ao35 t341.length co35) : Value).ownBlock ∧ some k_ ≠ ((.slice Ao43 t314.length co43) : Value).ownBlock ∧ some k_ ≠ ((.slice Ao44 t317.length co44) : Value).ownBlock ∧ some k_ ≠ ((.slice Ao136 t361.length co136) : Value).ownBlock ∧ some k_ ≠ ((.slice Ao137 t364.length co137) : Value).ownBlock) (.slice Ao25 t289.length co25) t289) ∧ Aside0 (Kd.R (Kd.int .i64) 3 wc w.heap.size (fun k_ => some k_ ≠ ((.slice Ao25 t289.length co25) : Value).ownBlock ∧ some k_ ≠ ((.slice Ao34 t340.length co34) : Value).ownBlock ∧ some k_ ≠ ((.slice Ao35 t341.length co35) : Value).ownBlock ∧ some k_ ≠ ((.slice Ao43 t314.length co43) : Value).ownBlock ∧ some k_ ≠ ((.slice Ao44 t317.length co44) : Value).ownBlock ∧ some k_ ≠ ((.slice Ao136 t361.length co136) : Value).ownBlock ∧ some k_ ≠ ((.slice Ao137 t364.length co137) : Value).ownBlock) (.slice Ao26 t292.length co26) t292) ∧ Aside0 (Kd.R (Kd.int .u8) 5 wc w.heap.size (fun k_ => some k_ ≠ ((.slice Ao36 t342.length co36) : Value).ownBlock ∧ some k_ ≠ ((.slice Ao45 t321.length co45) : Value).ownBlock ∧ some k_ ≠ ((.slice Ao138 t368.length co138) : Value).ownBlock) (.slice Ao27 t296.length co27) t296) ∧ Aside0 (Kd.R (Kd.int .i64) 3 wc w.heap.size (fun k_ => some k_ ≠ ((.slice Ao25 t289.length co25) : Value).ownBlock ∧ some k_ ≠ ((.slice Ao26 t292.length co26) : Value).ownBlock ∧ some k_ ≠ ((.slice Ao35 t341.length co35) : Value).ownBlock ∧ some k_ ≠ ((.slice Ao43 t314.length co43) : Value).ownBlock ∧ some k_ ≠ ((.slice Ao44 t317.length co44) : Value).ownBlock ∧ some k_ ≠ ((.slice Ao136 t361.length co136) : Value).ownBlock ∧ some k_ ≠ ((.slice Ao137 t364.length co137) : Value).ownBlock) (.slice Ao34 t340.length co34) t340) ∧ Aside0 (Kd.R (Kd.int .i64) 3 wc w.heap.size (fun k_ => some k_ ≠ ((.slice Ao25 t289.length co25) : Value).ownBlock ∧ some k_ ≠ ((.slice Ao26 t292.length co26) : Value).ownBlock ∧ some k_ ≠ ((.slice Ao34 t340.length co34) : Value).ownBlock ∧ some k_ ≠ ((.slice Ao43 t314.length co43) : Value).ownBlock ∧ some k_ ≠ ((.slice Ao44 t317.length co44) : Value).ownBlock ∧ some k_ ≠ ((.slice Ao136 t361.length co136) : Value).ownBlock ∧ some k_ ≠ ((.slice Ao137 t364.length co137) : Value).ownBlock) (.slice Ao35 t341.length co35) t341) ∧ Aside0 (Kd.R (Kd.int .u8) 5 wc w.heap.size (fun k_ => some k_ ≠ ((.slice Ao27 t296.length co27) : Value).ownBlock ∧ some k_ ≠ ((.slice Ao45 t321.length co45) : Value).ownBlock ∧ some k_ ≠ ((.slice Ao138 t368.length co138) : Value).ownBlock) (.slice Ao36 t342.length co36) t342) ∧ Aside0 (Kd.R (Kd.int .i64) 3 wc w.heap.size (fun k_ => some k_ ≠ ((.slice Ao25 t289.length co25) : Value).ownBlock ∧ some k_ ≠ ((.slice Ao26 t292.length co26) : Value).ownBlock ∧ some k_ ≠ ((.slice Ao34 t340.length co34) : Value).ownBlock ∧ some k_ ≠ ((.slice Ao35 t341.length co35) : Value).ownBlock ∧ some k_ ≠ ((.slice Ao44 t317.length co44) : Value).ownBlock ∧ some k_ ≠ ((.slice Ao136 t361.length co136) : Value).ownBlock ∧ some k_ ≠ ((.slice Ao137 t364.length co137) : Value).ownBlock) (.slice Ao43 t314.length co43) t345) ∧ Aside0 (Kd.R (Kd.int .i64) 3 wc w.heap.size (fun k_ => some k_ ≠ ((.slice Ao25 t289.length co25) : Value).ownBlock ∧ some k_ ≠ ((.slice Ao26 t292.length co26) : Value).ownBlock ∧ some k_ ≠ ((.slice Ao34 t340.length co34) : Value).ownBlock ∧ some k_ ≠ ((.slice Ao35 t341.length co35) : Value).ownBlock ∧ some k_ ≠ ((.slice Ao43 t314.length co43) : Value).ownBlock ∧ some k_ ≠ ((.slice Ao136 t361.length co136) : Value).ownBlock ∧ some k_ ≠ ((.slice Ao137 t364.length co137) : Value).ownBlock) (.slice Ao44 t317.length co44) t346) ∧ Aside0 (Kd.R (Kd.int .u8) 5 wc w.heap.size (fun k_ => some k_ ≠ ((.slice Ao27 t296.length co27) : Value).ownBlock ∧ some k_ ≠ ((.slice Ao36 t342.length co36) : Value).ownBlock ∧ some k_ ≠ ((.slice Ao138 t368.length co138) : Value).ownBlock) (.slice Ao45 t321.length co45) t347) ∧ Aside0 (Kd.R (Kd.int .i64) 3 wc w.heap.size (fun k_ => some k_ ≠ ((.slice Ao25 t289.length co25) : Value).ownBlock ∧ some k_ ≠ ((.slice Ao26 t292.length co26) : Value).ownBlock ∧ some k_ ≠ ((.slice Ao34 t340.length co34) : Value).ownBlock ∧ some k_ ≠ ((.slice Ao35 t341.length co35) : Value).ownBlock ∧ some k_ ≠ ((.slice Ao43 t314.length co43) : Value).ownBlock ∧ some k_ ≠ ((.slice Ao44 t317.length co44) : Value).ownBlock ∧ some k_ ≠ ((.slice Ao137 t364.length co137) : Value).ownBlock) (.slice Ao136 t361.length co136) t361) ∧ Aside0 (Kd.R (Kd.int .i64) 3 wc w.heap.size (fun k_ => some k_ ≠ ((.slice Ao25 t289.length co25) : Value).ownBlock ∧ some k_ ≠ ((.slice Ao26 t292.length co26) : Value).ownBlock ∧ some k_ ≠ ((.slice Ao34 t340.length co34) : Value).ownBlock ∧ some k_ ≠ ((.slice Ao35 t341.length co35) : Value).ownBlock ∧ some k_ ≠ ((.slice Ao43 t314.length co43) : Value).ownBlock ∧ some k_ ≠ ((.slice Ao44 t317.length co44) : Value).ownBlock ∧ some k_ ≠ ((.slice Ao136 t361.length co136) : Value).ownBlock) (.slice Ao137 t364.length co137) t364) ∧ Aside0 (Kd.R (Kd.int .u8) 5 wc w.heap.size (fun k_ => some k_ ≠ ((.slice Ao27 t296.length co27) : Value).ownBlock ∧ some k_ ≠ ((.slice Ao36 t342.length co36) : Value).ownBlock ∧ some k_ ≠ ((.slice Ao45 t321.length co45) : Value).ownBlock) (.slice Ao138 t368.length co138) t368) ∧ Aside0 (wc.heap[gb275]? = some (.cells #[.int .i64 a0_0, (.slice A0_1 l0_1.length c0_1), (.slice A0_2 l0_2.length c0_2), .int .i64 a0_3, (.slice A0_4 l0_4.length c0_4)] 27 (0, 0))) ∧ Aside0 (wc.heap[gb300]? = some (.cells #[.int .i64 t288, (.slice Ao25 t289.length co25), (.slice Ao26 t292.length co26), .int .i64 t295, (.slice Ao27 t296.length co27)] 31 (0, 0))) ∧ Aside0 (wc.heap[gb312]? = some (.cells #[.int .i64 t301, (.slice Ao34 t340.length co34), (.slice Ao35 t341.length co35), .int .i64 t308, (.slice Ao36 t342.length co36)] 31 (0, 0))) ∧ Aside0 (wc.heap[gb325]? = some (.cells #[.int .i64 t313, (.slice Ao43 t314.length co43), (.slice Ao44 t317.length co44), .int .i64 t320, (.slice Ao45 t321.length co45)] 31 (0, 0))) ∧ Aside0 (wc.heap[gb372]? = some (.cells #[.int .i64 t360, (.slice Ao136 t361.length co136), (.slice Ao137 t364.length co137), .int .i64 t367, (.slice Ao138 t368.length co138)] 31 (0, 0))) ∧ Aside0 (Below w.heap.size w wc))
                      case first =>
                        have H := HC114.out
                        clear HC114
                        replace H := Option.bind_eq_some_iff.mp H
                        obtain ⟨t373, A1390, H⟩ := H
                        replace H : (if t373 = true then (laws_FnExactCelInput.j2 kj68 t344 (t371 != t299) t313 t345 t346 t320 t347) else (laws_FnExactCelInput.j2 kj68 t344 true t313 t345 t346 t320 t347)) = some r := H
                        have A139 := Aside0.mk A1390
                        clear A1390
                        by_cases c140 : t373 = true
                        · subst c140
                          have H1 : (laws_FnExactCelInput.j2 kj68 t344 (t371 != t299) t313 t345 t346 t320 t347) = some r := by rw [if_pos rfl] at H; exact H
                          clear H
                          have H := H1
                          clear H1
                          have H' := Aside0.mk H
                          clear H
                          have hnb141 := NB372_275.out
                          have hnc141 := NB275_372.out
                          have hnb142 := NB372_300.out
                          have hnc142 := NB300_372.out
                          have hnb143 := NB372_312.out
                          have hnc143 := NB312_372.out
                          have hnb144 := NB372_325.out
                          have hnc144 := NB325_372.out
                          have hcz145_0 : w130.cell? ⟨gb372, 0, none⟩ = some (.int .i64 0) := (blk_cell BK372.out 0).trans rfl
                          have hcz145_1 : w130.cell? ⟨gb372, 1, none⟩ = some (.slice none 0 0) := (blk_cell BK372.out 1).trans rfl
                          have hcz145_2 : w130.cell? ⟨gb372, 2, none⟩ = some (.slice none 0 0) := (blk_cell BK372.out 2).trans rfl
                          have hcz145_3 : w130.cell? ⟨gb372, 3, none⟩ = some (.int .i64 0) := (blk_cell BK372.out 3).trans rfl
                          have hcz145_4 : w130.cell? ⟨gb372, 4, none⟩ = some (.slice none 0 0) := (blk_cell BK372.out 4).trans rfl
                          have hfz145_0 := blk_frozen BK372.out 0
                          have hfz145_1 := blk_frozen BK372.out 1
                          have hfz145_2 := blk_frozen BK372.out 2
                          have hfz145_3 := blk_frozen BK372.out 3
                          have hfz145_4 := blk_frozen BK372.out 4
                          have hnb146 := NB300_275.out
                          have hnc146 := NB275_300.out
                          have hnb147 := NB300_312.out
                          have hnc147 := NB312_300.out
                          have hnb148 := NB300_325.out
                          have hnc148 := NB325_300.out
                          have hcz149_0 : w130.cell? ⟨gb300, 0, none⟩ = some (.int .i64 t288) := (blk_cell BK300.out 0).trans rfl
                          have hcz149_1 : w130.cell? ⟨gb300, 1, none⟩ = some (.slice Ao25 t289.length co25) := (blk_cell BK300.out 1).trans rfl
                          have hcz149_2 : w130.cell? ⟨gb300, 2, none⟩ = some (.slice Ao26 t292.length co26) := (blk_cell BK300.out 2).trans rfl
                          have hcz149_3 : w130.cell? ⟨gb300, 3, none⟩ = some (.int .i64 t295) := (blk_cell BK300.out 3).trans rfl
                          have hcz149_4 : w130.cell? ⟨gb300, 4, none⟩ = some (.slice Ao27 t296.length co27) := (blk_cell BK300.out 4).trans rfl
                          have hfz149_0 := blk_frozen BK300.out 0
                          have hfz149_1 := blk_frozen BK300.out 1
                          have hfz149_2 := blk_frozen BK300.out 2
                          have hfz149_3 := blk_frozen BK300.out 3
                          have hfz149_4 := blk_frozen BK300.out 4
                          go_wp2_with (first | ((with_reducible refine gate_callee (f := 9) rfl ?_); refine goesL_ (some 86) rfl rfl Try.func9 (by kernel_rfl) rfl #[.agg #[.int .i64 t360, .slice Ao136 t361.length co136, .slice Ao137 t364.length co137, .int .i64 t367, .slice Ao138 t368.length co138], .agg #[.int .i64 t288, .slice Ao25 t289.length co25, .slice Ao26 t292.length co26, .int .i64 t295, .slice Ao27 t296.length co27]] rfl ml_ ?_; (with_reducible refine (laws_eqCelCell.calls kj68 t360 _ _ t361 _ _ t364 t367 _ _ t368 t288 _ _ t289 _ _ t292 t295 _ _ t296 true _ ?side1 ?side2 ?side3 ?side4 ?side5 ?side6 ?side7 ?side8 ?side9 ?side10 ?side11 ?side12 A139.out).mono ?_); (case side1 => refine (Kd.R_reads' (e := 3) (base := w.heap.size) (ok := fun k_ => ((((((((some k_ ≠ (.slice Ao137 t364.length co137 : Value).ownBlock ∧ some k_ ≠ (.slice Ao25 t289.length co25 : Value).ownBlock) ∧ some k_ ≠ (.slice Ao26 t292.length co26 : Value).ownBlock) ∧ some k_ ≠ (.slice Ao34 t340.length co34 : Value).ownBlock) ∧ some k_ ≠ (.slice Ao35 t341.length co35 : Value).ownBlock) ∧ some k_ ≠ (.slice Ao43 t314.length co43 : Value).ownBlock) ∧ some k_ ≠ (.slice Ao44 t317.length co44 : Value).ownBlock) ∧ some k_ ≠ (.slice Ao126 t350.length co126 : Value).ownBlock) ∧ some k_ ≠ (.slice Ao127 t353.length co127 : Value).ownBlock)) (n := t361.length) (c := co136) ?_).2.2; exact (by (with_reducible repeat (first | apply Kd.R_alloc | apply Kd.R_drewN | apply Kd.R_drew)); exact (Kd.R_mono (Kd.R_far (p := ⟨gb372, 4, none⟩) (Kd.R_far (p := ⟨gb372, 3, none⟩) (Kd.R_far (p := ⟨gb372, 2, none⟩) (Kd.R_far (p := ⟨gb372, 1, none⟩) (Kd.R_far (p := ⟨gb372, 0, none⟩) (Kd.R_types HO363.out BK372.out (by decide)) (fun _ hk => hk.2) (.int .i64 t360)) (fun _ hk => hk.2) (.slice Ao136 t361.length co136)) (fun _ hk => hk.2) (.slice Ao137 t364.length co137)) (fun _ hk => hk.2) (.int .i64 t367)) (fun _ hk => hk.2) (.slice Ao138 t368.length co138)) (fun _ h_ => h_.1)))); (case side2 => exact (Kd.R_reads' HO363.out).2.1); (case side3 => refine (Kd.R_reads' (e := 3) (base := w.heap.size) (ok := fun k_ => ((((((((some k_ ≠ (.slice Ao136 t361.length co136 : Value).ownBlock ∧ some k_ ≠ (.slice Ao25 t289.length co25 : Value).ownBlock) ∧ some k_ ≠ (.slice Ao26 t292.length co26 : Value).ownBlock) ∧ some k_ ≠ (.slice Ao34 t340.length co34 : Value).ownBlock) ∧ some k_ ≠ (.slice Ao35 t341.length co35 : Value).ownBlock) ∧ some k_ ≠ (.slice Ao43 t314.length co43 : Value).ownBlock) ∧ some k_ ≠ (.slice Ao44 t317.length co44 : Value).ownBlock) ∧ some k_ ≠ (.slice Ao126 t350.length co126 : Value).ownBlock) ∧ some k_ ≠ (.slice Ao127 t353.length co127 : Value).ownBlock)) (n := t364.length) (c := co137) ?_).2.2; exact (by (with_reducible repeat (first | apply Kd.R_alloc | apply Kd.R_drewN | apply Kd.R_drew)); exact (Kd.R_mono (Kd.R_far (p := ⟨gb372, 4, none⟩) (Kd.R_far (p := ⟨gb372, 3, none⟩) (Kd.R_far (p := ⟨gb372, 2, none⟩) (Kd.R_far (p := ⟨gb372, 1, none⟩) (Kd.R_far (p := ⟨gb372, 0, none⟩) (Kd.R_types HO366.out BK372.out (by decide)) (fun _ hk => hk.2) (.int .i64 t360)) (fun _ hk => hk.2) (.slice Ao136 t361.length co136)) (fun _ hk => hk.2) (.slice Ao137 t364.length co137)) (fun _ hk => hk.2) (.int .i64 t367)) (fun _ hk => hk.2) (.slice Ao138 t368.length co138)) (fun _ h_ => h_.1)))); (case side4 => exact (Kd.R_reads' HO366.out).2.1); (case side5 => refine (Kd.R_reads' (e := 5) (base := w.heap.size) (ok := fun k_ => ((((True ∧ some k_ ≠ (.slice Ao27 t296.length co27 : Value).ownBlock) ∧ some k_ ≠ (.slice Ao36 t342.length co36 : Value).ownBlock) ∧ some k_ ≠ (.slice Ao45 t321.length co45 : Value).ownBlock) ∧ some k_ ≠ (.slice Ao128 t357.length co128 : Value).ownBlock)) (n := t368.length) (c := co138) ?_).2.2; exact (by (with_reducible repeat (first | apply Kd.R_alloc | apply Kd.R_drewN | apply Kd.R_drew)); exact (Kd.R_mono (Kd.R_far (p := ⟨gb372, 4, none⟩) (Kd.R_far (p := ⟨gb372, 3, none⟩) (Kd.R_far (p := ⟨gb372, 2, none⟩) (Kd.R_far (p := ⟨gb372, 1, none⟩) (Kd.R_far (p := ⟨gb372, 0, none⟩) (Kd.R_types HO370.out BK372.out (by decide)) (fun _ hk => hk.2) (.int .i64 t360)) (fun _ hk => hk.2) (.slice Ao136 t361.length co136)) (fun _ hk => hk.2) (.slice Ao137 t364.length co137)) (fun _ hk => hk.2) (.int .i64 t367)) (fun _ hk => hk.2) (.slice Ao138 t368.length co138)) (fun _ h_ => h_.1)))); (case side6 => exact (Kd.R_reads' HO370.out).2.1); (case side7 => refine (Kd.R_reads' (e := 3) (base := w.heap.size) (ok := fun k_ => (((((some k_ ≠ (.slice Ao26 t292.length co26 : Value).ownBlock ∧ (some k_ ≠ (.slice Ao34 t340.length co34 : Value).ownBlock ∧ (some k_ ≠ (.slice Ao35 t341.length co35 : Value).ownBlock ∧ (some k_ ≠ (.slice Ao43 t314.length co43 : Value).ownBlock ∧ some k_ ≠ (.slice Ao44 t317.length co44 : Value).ownBlock)))) ∧ some k_ ≠ (.slice Ao126 t350.length co126 : Value).ownBlock) ∧ some k_ ≠ (.slice Ao127 t353.length co127 : Value).ownBlock) ∧ some k_ ≠ (.slice Ao136 t361.length co136 : Value).ownBlock) ∧ some k_ ≠ (.slice Ao137 t364.length co137 : Value).ownBlock)) (n := t289.length) (c := co25) ?_).2.2; exact (by (with_reducible repeat (first | apply Kd.R_alloc | apply Kd.R_drewN | apply Kd.R_drew)); exact (Kd.R_mono (Kd.R_far (p := ⟨gb372, 4, none⟩) (Kd.R_far (p := ⟨gb372, 3, none⟩) (Kd.R_far (p := ⟨gb372, 2, none⟩) (Kd.R_far (p := ⟨gb372, 1, none⟩) (Kd.R_far (p := ⟨gb372, 0, none⟩) (Kd.R_types HO_301001.out BK372.out (by decide)) (fun _ hk => hk.2) (.int .i64 t360)) (fun _ hk => hk.2) (.slice Ao136 t361.length co136)) (fun _ hk => hk.2) (.slice Ao137 t364.length co137)) (fun _ hk => hk.2) (.int .i64 t367)) (fun _ hk => hk.2) (.slice Ao138 t368.length co138)) (fun _ h_ => h_.1)))); (case side8 => exact (Kd.R_reads' HO_301001.out).2.1); (case side9 => refine (Kd.R_reads' (e := 3) (base := w.heap.size) (ok := fun k_ => (((((some k_ ≠ (.slice Ao25 t289.length co25 : Value).ownBlock ∧ (some k_ ≠ (.slice Ao34 t340.length co34 : Value).ownBlock ∧ (some k_ ≠ (.slice Ao35 t341.length co35 : Value).ownBlock ∧ (some k_ ≠ (.slice Ao43 t314.length co43 : Value).ownBlock ∧ some k_ ≠ (.slice Ao44 t317.length co44 : Value).ownBlock)))) ∧ some k_ ≠ (.slice Ao126 t350.length co126 : Value).ownBlock) ∧ some k_ ≠ (.slice Ao127 t353.length co127 : Value).ownBlock) ∧ some k_ ≠ (.slice Ao136 t361.length co136 : Value).ownBlock) ∧ some k_ ≠ (.slice Ao137 t364.length co137 : Value).ownBlock)) (n := t292.length) (c := co26) ?_).2.2; exact (by (with_reducible repeat (first | apply Kd.R_alloc | apply Kd.R_drewN | apply Kd.R_drew)); exact (Kd.R_mono (Kd.R_far (p := ⟨gb372, 4, none⟩) (Kd.R_far (p := ⟨gb372, 3, none⟩) (Kd.R_far (p := ⟨gb372, 2, none⟩) (Kd.R_far (p := ⟨gb372, 1, none⟩) (Kd.R_far (p := ⟨gb372, 0, none⟩) (Kd.R_types HO_301002.out BK372.out (by decide)) (fun _ hk => hk.2) (.int .i64 t360)) (fun _ hk => hk.2) (.slice Ao136 t361.length co136)) (fun _ hk => hk.2) (.slice Ao137 t364.length co137)) (fun _ hk => hk.2) (.int .i64 t367)) (fun _ hk => hk.2) (.slice Ao138 t368.length co138)) (fun _ h_ => h_.1)))); (case side10 => exact (Kd.R_reads' HO_301002.out).2.1); (case side11 => refine (Kd.R_reads' (e := 5) (base := w.heap.size) (ok := fun k_ => (((some k_ ≠ (.slice Ao36 t342.length co36 : Value).ownBlock ∧ some k_ ≠ (.slice Ao45 t321.length co45 : Value).ownBlock) ∧ some k_ ≠ (.slice Ao128 t357.length co128 : Value).ownBlock) ∧ some k_ ≠ (.slice Ao138 t368.length co138 : Value).ownBlock)) (n := t296.length) (c := co27) ?_).2.2; exact (by (with_reducible repeat (first | apply Kd.R_alloc | apply Kd.R_drewN | apply Kd.R_drew)); exact (Kd.R_mono (Kd.R_far (p := ⟨gb372, 4, none⟩) (Kd.R_far (p := ⟨gb372, 3, none⟩) (Kd.R_far (p := ⟨gb372, 2, none⟩) (Kd.R_far (p := ⟨gb372, 1, none⟩) (Kd.R_far (p := ⟨gb372, 0, none⟩) (Kd.R_types HO_301004.out BK372.out (by decide)) (fun _ hk => hk.2) (.int .i64 t360)) (fun _ hk => hk.2) (.slice Ao136 t361.length co136)) (fun _ hk => hk.2) (.slice Ao137 t364.length co137)) (fun _ hk => hk.2) (.int .i64 t367)) (fun _ hk => hk.2) (.slice Ao138 t368.length co138)) (fun _ h_ => h_.1)))); (case side12 => exact (Kd.R_reads' HO_301004.out).2.1); rintro e w150 ⟨rfl, hb⟩; refine ⟨_, rfl, ?_⟩; have n0_ := Aside0.mk (Kd.R_below (by (with_reducible repeat (first | apply Kd.R_alloc | apply Kd.R_drewN | apply Kd.R_drew)); exact (Kd.R_mono (Kd.R_far (p := ⟨gb372, 4, none⟩) (Kd.R_far (p := ⟨gb372, 3, none⟩) (Kd.R_far (p := ⟨gb372, 2, none⟩) (Kd.R_far (p := ⟨gb372, 1, none⟩) (Kd.R_far (p := ⟨gb372, 0, none⟩) (Kd.R_types HO_301001.out BK372.out (by decide)) (fun _ hk => hk.2) (.int .i64 t360)) (fun _ hk => hk.2) (.slice Ao136 t361.length co136)) (fun _ hk => hk.2) (.slice Ao137 t364.length co137)) (fun _ hk => hk.2) (.int .i64 t367)) (fun _ hk => hk.2) (.slice Ao138 t368.length co138)) (fun _ h_ => h_.1))) hb); have n1_ := Aside0.mk (Kd.R_below (by (with_reducible repeat (first | apply Kd.R_alloc | apply Kd.R_drewN | apply Kd.R_drew)); exact (Kd.R_mono (Kd.R_far (p := ⟨gb372, 4, none⟩) (Kd.R_far (p := ⟨gb372, 3, none⟩) (Kd.R_far (p := ⟨gb372, 2, none⟩) (Kd.R_far (p := ⟨gb372, 1, none⟩) (Kd.R_far (p := ⟨gb372, 0, none⟩) (Kd.R_types HO_301002.out BK372.out (by decide)) (fun _ hk => hk.2) (.int .i64 t360)) (fun _ hk => hk.2) (.slice Ao136 t361.length co136)) (fun _ hk => hk.2) (.slice Ao137 t364.length co137)) (fun _ hk => hk.2) (.int .i64 t367)) (fun _ hk => hk.2) (.slice Ao138 t368.length co138)) (fun _ h_ => h_.1))) hb); have n2_ := Aside0.mk (Kd.R_below (by (with_reducible repeat (first | apply Kd.R_alloc | apply Kd.R_drewN | apply Kd.R_drew)); exact (Kd.R_mono (Kd.R_far (p := ⟨gb372, 4, none⟩) (Kd.R_far (p := ⟨gb372, 3, none⟩) (Kd.R_far (p := ⟨gb372, 2, none⟩) (Kd.R_far (p := ⟨gb372, 1, none⟩) (Kd.R_far (p := ⟨gb372, 0, none⟩) (Kd.R_types HO_301004.out BK372.out (by decide)) (fun _ hk => hk.2) (.int .i64 t360)) (fun _ hk => hk.2) (.slice Ao136 t361.length co136)) (fun _ hk => hk.2) (.slice Ao137 t364.length co137)) (fun _ hk => hk.2) (.int .i64 t367)) (fun _ hk => hk.2) (.slice Ao138 t368.length co138)) (fun _ h_ => h_.1))) hb); have n3_ := Aside0.mk (Kd.R_below (by (with_reducible repeat (first | apply Kd.R_alloc | apply Kd.R_drewN | apply Kd.R_drew)); exact (Kd.R_mono (Kd.R_far (p := ⟨gb372, 4, none⟩) (Kd.R_far (p := ⟨gb372, 3, none⟩) (Kd.R_far (p := ⟨gb372, 2, none⟩) (Kd.R_far (p := ⟨gb372, 1, none⟩) (Kd.R_far (p := ⟨gb372, 0, none⟩) (Kd.R_types HO_313001.out BK372.out (by decide)) (fun _ hk => hk.2) (.int .i64 t360)) (fun _ hk => hk.2) (.slice Ao136 t361.length co136)) (fun _ hk => hk.2) (.slice Ao137 t364.length co137)) (fun _ hk => hk.2) (.int .i64 t367)) (fun _ hk => hk.2) (.slice Ao138 t368.length co138)) (fun _ h_ => h_.1))) hb); have n4_ := Aside0.mk (Kd.R_below (by (with_reducible repeat (first | apply Kd.R_alloc | apply Kd.R_drewN | apply Kd.R_drew)); exact (Kd.R_mono (Kd.R_far (p := ⟨gb372, 4, none⟩) (Kd.R_far (p := ⟨gb372, 3, none⟩) (Kd.R_far (p := ⟨gb372, 2, none⟩) (Kd.R_far (p := ⟨gb372, 1, none⟩) (Kd.R_far (p := ⟨gb372, 0, none⟩) (Kd.R_types HO_313002.out BK372.out (by decide)) (fun _ hk => hk.2) (.int .i64 t360)) (fun _ hk => hk.2) (.slice Ao136 t361.length co136)) (fun _ hk => hk.2) (.slice Ao137 t364.length co137)) (fun _ hk => hk.2) (.int .i64 t367)) (fun _ hk => hk.2) (.slice Ao138 t368.length co138)) (fun _ h_ => h_.1))) hb); have n5_ := Aside0.mk (Kd.R_below (by (with_reducible repeat (first | apply Kd.R_alloc | apply Kd.R_drewN | apply Kd.R_drew)); exact (Kd.R_mono (Kd.R_far (p := ⟨gb372, 4, none⟩) (Kd.R_far (p := ⟨gb372, 3, none⟩) (Kd.R_far (p := ⟨gb372, 2, none⟩) (Kd.R_far (p := ⟨gb372, 1, none⟩) (Kd.R_far (p := ⟨gb372, 0, none⟩) (Kd.R_types HO_313004.out BK372.out (by decide)) (fun _ hk => hk.2) (.int .i64 t360)) (fun _ hk => hk.2) (.slice Ao136 t361.length co136)) (fun _ hk => hk.2) (.slice Ao137 t364.length co137)) (fun _ hk => hk.2) (.int .i64 t367)) (fun _ hk => hk.2) (.slice Ao138 t368.length co138)) (fun _ h_ => h_.1))) hb); have n6_ := Aside0.mk (Kd.R_below (by (with_reducible repeat (first | apply Kd.R_alloc | apply Kd.R_drewN | apply Kd.R_drew)); exact (Kd.R_mono (Kd.R_far (p := ⟨gb372, 4, none⟩) (Kd.R_far (p := ⟨gb372, 3, none⟩) (Kd.R_far (p := ⟨gb372, 2, none⟩) (Kd.R_far (p := ⟨gb372, 1, none⟩) (Kd.R_far (p := ⟨gb372, 0, none⟩) (Kd.R_types HO_326001.out BK372.out (by decide)) (fun _ hk => hk.2) (.int .i64 t360)) (fun _ hk => hk.2) (.slice Ao136 t361.length co136)) (fun _ hk => hk.2) (.slice Ao137 t364.length co137)) (fun _ hk => hk.2) (.int .i64 t367)) (fun _ hk => hk.2) (.slice Ao138 t368.length co138)) (fun _ h_ => h_.1))) hb); have n7_ := Aside0.mk (Kd.R_below (by (with_reducible repeat (first | apply Kd.R_alloc | apply Kd.R_drewN | apply Kd.R_drew)); exact (Kd.R_mono (Kd.R_far (p := ⟨gb372, 4, none⟩) (Kd.R_far (p := ⟨gb372, 3, none⟩) (Kd.R_far (p := ⟨gb372, 2, none⟩) (Kd.R_far (p := ⟨gb372, 1, none⟩) (Kd.R_far (p := ⟨gb372, 0, none⟩) (Kd.R_types HO_326002.out BK372.out (by decide)) (fun _ hk => hk.2) (.int .i64 t360)) (fun _ hk => hk.2) (.slice Ao136 t361.length co136)) (fun _ hk => hk.2) (.slice Ao137 t364.length co137)) (fun _ hk => hk.2) (.int .i64 t367)) (fun _ hk => hk.2) (.slice Ao138 t368.length co138)) (fun _ h_ => h_.1))) hb); have n8_ := Aside0.mk (Kd.R_below (by (with_reducible repeat (first | apply Kd.R_alloc | apply Kd.R_drewN | apply Kd.R_drew)); exact (Kd.R_mono (Kd.R_far (p := ⟨gb372, 4, none⟩) (Kd.R_far (p := ⟨gb372, 3, none⟩) (Kd.R_far (p := ⟨gb372, 2, none⟩) (Kd.R_far (p := ⟨gb372, 1, none⟩) (Kd.R_far (p := ⟨gb372, 0, none⟩) (Kd.R_types HO_326004.out BK372.out (by decide)) (fun _ hk => hk.2) (.int .i64 t360)) (fun _ hk => hk.2) (.slice Ao136 t361.length co136)) (fun _ hk => hk.2) (.slice Ao137 t364.length co137)) (fun _ hk => hk.2) (.int .i64 t367)) (fun _ hk => hk.2) (.slice Ao138 t368.length co138)) (fun _ h_ => h_.1))) hb); have n9_ := Aside0.mk (Kd.R_below (by (with_reducible repeat (first | apply Kd.R_alloc | apply Kd.R_drewN | apply Kd.R_drew)); exact (Kd.R_mono (Kd.R_far (p := ⟨gb372, 4, none⟩) (Kd.R_far (p := ⟨gb372, 3, none⟩) (Kd.R_far (p := ⟨gb372, 2, none⟩) (Kd.R_far (p := ⟨gb372, 1, none⟩) (Kd.R_far (p := ⟨gb372, 0, none⟩) (Kd.R_types HO352.out BK372.out (by decide)) (fun _ hk => hk.2) (.int .i64 t360)) (fun _ hk => hk.2) (.slice Ao136 t361.length co136)) (fun _ hk => hk.2) (.slice Ao137 t364.length co137)) (fun _ hk => hk.2) (.int .i64 t367)) (fun _ hk => hk.2) (.slice Ao138 t368.length co138)) (fun _ h_ => h_.1))) hb); have n10_ := Aside0.mk (Kd.R_below (by (with_reducible repeat (first | apply Kd.R_alloc | apply Kd.R_drewN | apply Kd.R_drew)); exact (Kd.R_mono (Kd.R_far (p := ⟨gb372, 4, none⟩) (Kd.R_far (p := ⟨gb372, 3, none⟩) (Kd.R_far (p := ⟨gb372, 2, none⟩) (Kd.R_far (p := ⟨gb372, 1, none⟩) (Kd.R_far (p := ⟨gb372, 0, none⟩) (Kd.R_types HO355.out BK372.out (by decide)) (fun _ hk => hk.2) (.int .i64 t360)) (fun _ hk => hk.2) (.slice Ao136 t361.length co136)) (fun _ hk => hk.2) (.slice Ao137 t364.length co137)) (fun _ hk => hk.2) (.int .i64 t367)) (fun _ hk => hk.2) (.slice Ao138 t368.length co138)) (fun _ h_ => h_.1))) hb); have n11_ := Aside0.mk (Kd.R_below (by (with_reducible repeat (first | apply Kd.R_alloc | apply Kd.R_drewN | apply Kd.R_drew)); exact (Kd.R_mono (Kd.R_far (p := ⟨gb372, 4, none⟩) (Kd.R_far (p := ⟨gb372, 3, none⟩) (Kd.R_far (p := ⟨gb372, 2, none⟩) (Kd.R_far (p := ⟨gb372, 1, none⟩) (Kd.R_far (p := ⟨gb372, 0, none⟩) (Kd.R_types HO359.out BK372.out (by decide)) (fun _ hk => hk.2) (.int .i64 t360)) (fun _ hk => hk.2) (.slice Ao136 t361.length co136)) (fun _ hk => hk.2) (.slice Ao137 t364.length co137)) (fun _ hk => hk.2) (.int .i64 t367)) (fun _ hk => hk.2) (.slice Ao138 t368.length co138)) (fun _ h_ => h_.1))) hb); have n12_ := Aside0.mk (Kd.R_below (by (with_reducible repeat (first | apply Kd.R_alloc | apply Kd.R_drewN | apply Kd.R_drew)); exact (Kd.R_mono (Kd.R_far (p := ⟨gb372, 4, none⟩) (Kd.R_far (p := ⟨gb372, 3, none⟩) (Kd.R_far (p := ⟨gb372, 2, none⟩) (Kd.R_far (p := ⟨gb372, 1, none⟩) (Kd.R_far (p := ⟨gb372, 0, none⟩) (Kd.R_types HO363.out BK372.out (by decide)) (fun _ hk => hk.2) (.int .i64 t360)) (fun _ hk => hk.2) (.slice Ao136 t361.length co136)) (fun _ hk => hk.2) (.slice Ao137 t364.length co137)) (fun _ hk => hk.2) (.int .i64 t367)) (fun _ hk => hk.2) (.slice Ao138 t368.length co138)) (fun _ h_ => h_.1))) hb); have n13_ := Aside0.mk (Kd.R_below (by (with_reducible repeat (first | apply Kd.R_alloc | apply Kd.R_drewN | apply Kd.R_drew)); exact (Kd.R_mono (Kd.R_far (p := ⟨gb372, 4, none⟩) (Kd.R_far (p := ⟨gb372, 3, none⟩) (Kd.R_far (p := ⟨gb372, 2, none⟩) (Kd.R_far (p := ⟨gb372, 1, none⟩) (Kd.R_far (p := ⟨gb372, 0, none⟩) (Kd.R_types HO366.out BK372.out (by decide)) (fun _ hk => hk.2) (.int .i64 t360)) (fun _ hk => hk.2) (.slice Ao136 t361.length co136)) (fun _ hk => hk.2) (.slice Ao137 t364.length co137)) (fun _ hk => hk.2) (.int .i64 t367)) (fun _ hk => hk.2) (.slice Ao138 t368.length co138)) (fun _ h_ => h_.1))) hb); have n14_ := Aside0.mk (Kd.R_below (by (with_reducible repeat (first | apply Kd.R_alloc | apply Kd.R_drewN | apply Kd.R_drew)); exact (Kd.R_mono (Kd.R_far (p := ⟨gb372, 4, none⟩) (Kd.R_far (p := ⟨gb372, 3, none⟩) (Kd.R_far (p := ⟨gb372, 2, none⟩) (Kd.R_far (p := ⟨gb372, 1, none⟩) (Kd.R_far (p := ⟨gb372, 0, none⟩) (Kd.R_types HO370.out BK372.out (by decide)) (fun _ hk => hk.2) (.int .i64 t360)) (fun _ hk => hk.2) (.slice Ao136 t361.length co136)) (fun _ hk => hk.2) (.slice Ao137 t364.length co137)) (fun _ hk => hk.2) (.int .i64 t367)) (fun _ hk => hk.2) (.slice Ao138 t368.length co138)) (fun _ h_ => h_.1))) hb); have n15_ := Aside0.mk (blk_below (g := gb275) (o := .cells #[.int .i64 a0_0, .slice A0_1 l0_1.length c0_1, .slice A0_2 l0_2.length c0_2, .int .i64 a0_3, .slice A0_4 l0_4.length c0_4] 27 (0, 0)) (by (with_reducible repeat (first | refine blk_drewN ?_ _ | refine blk_drew ?_ | refine blk_alloc ?_ _)); refine blk_far ?_ NB275_372.out _; (with_reducible repeat (first | refine blk_drewN ?_ _ | refine blk_drew ?_ | refine blk_alloc ?_ _)); refine blk_far ?_ NB275_372.out _; (with_reducible repeat (first | refine blk_drewN ?_ _ | refine blk_drew ?_ | refine blk_alloc ?_ _)); refine blk_far ?_ NB275_372.out _; (with_reducible repeat (first | refine blk_drewN ?_ _ | refine blk_drew ?_ | refine blk_alloc ?_ _)); refine blk_far ?_ NB275_372.out _; (with_reducible repeat (first | refine blk_drewN ?_ _ | refine blk_drew ?_ | refine blk_alloc ?_ _)); refine blk_far ?_ NB275_372.out _; (with_reducible repeat (first | refine blk_drewN ?_ _ | refine blk_drew ?_ | refine blk_alloc ?_ _)); exact BK275.out) hb); have n16_ := Aside0.mk (blk_below (g := gb300) (o := .cells #[.int .i64 t288, .slice Ao25 t289.length co25, .slice Ao26 t292.length co26, .int .i64 t295, .slice Ao27 t296.length co27] 31 (0, 0)) (by (with_reducible repeat (first | refine blk_drewN ?_ _ | refine blk_drew ?_ | refine blk_alloc ?_ _)); refine blk_far ?_ NB300_372.out _; (with_reducible repeat (first | refine blk_drewN ?_ _ | refine blk_drew ?_ | refine blk_alloc ?_ _)); refine blk_far ?_ NB300_372.out _; (with_reducible repeat (first | refine blk_drewN ?_ _ | refine blk_drew ?_ | refine blk_alloc ?_ _)); refine blk_far ?_ NB300_372.out _; (with_reducible repeat (first | refine blk_drewN ?_ _ | refine blk_drew ?_ | refine blk_alloc ?_ _)); refine blk_far ?_ NB300_372.out _; (with_reducible repeat (first | refine blk_drewN ?_ _ | refine blk_drew ?_ | refine blk_alloc ?_ _)); refine blk_far ?_ NB300_372.out _; (with_reducible repeat (first | refine blk_drewN ?_ _ | refine blk_drew ?_ | refine blk_alloc ?_ _)); exact BK300.out) hb); have n17_ := Aside0.mk (blk_below (g := gb312) (o := .cells #[.int .i64 t301, .slice Ao34 t340.length co34, .slice Ao35 t341.length co35, .int .i64 t308, .slice Ao36 t342.length co36] 31 (0, 0)) (by (with_reducible repeat (first | refine blk_drewN ?_ _ | refine blk_drew ?_ | refine blk_alloc ?_ _)); refine blk_far ?_ NB312_372.out _; (with_reducible repeat (first | refine blk_drewN ?_ _ | refine blk_drew ?_ | refine blk_alloc ?_ _)); refine blk_far ?_ NB312_372.out _; (with_reducible repeat (first | refine blk_drewN ?_ _ | refine blk_drew ?_ | refine blk_alloc ?_ _)); refine blk_far ?_ NB312_372.out _; (with_reducible repeat (first | refine blk_drewN ?_ _ | refine blk_drew ?_ | refine blk_alloc ?_ _)); refine blk_far ?_ NB312_372.out _; (with_reducible repeat (first | refine blk_drewN ?_ _ | refine blk_drew ?_ | refine blk_alloc ?_ _)); refine blk_far ?_ NB312_372.out _; (with_reducible repeat (first | refine blk_drewN ?_ _ | refine blk_drew ?_ | refine blk_alloc ?_ _)); exact BK312.out) hb); have n18_ := Aside0.mk (blk_below (g := gb325) (o := .cells #[.int .i64 t313, .slice Ao43 t314.length co43, .slice Ao44 t317.length co44, .int .i64 t320, .slice Ao45 t321.length co45] 31 (0, 0)) (by (with_reducible repeat (first | refine blk_drewN ?_ _ | refine blk_drew ?_ | refine blk_alloc ?_ _)); refine blk_far ?_ NB325_372.out _; (with_reducible repeat (first | refine blk_drewN ?_ _ | refine blk_drew ?_ | refine blk_alloc ?_ _)); refine blk_far ?_ NB325_372.out _; (with_reducible repeat (first | refine blk_drewN ?_ _ | refine blk_drew ?_ | refine blk_alloc ?_ _)); refine blk_far ?_ NB325_372.out _; (with_reducible repeat (first | refine blk_drewN ?_ _ | refine blk_drew ?_ | refine blk_alloc ?_ _)); refine blk_far ?_ NB325_372.out _; (with_reducible repeat (first | refine blk_drewN ?_ _ | refine blk_drew ?_ | refine blk_alloc ?_ _)); refine blk_far ?_ NB325_372.out _; (with_reducible repeat (first | refine blk_drewN ?_ _ | refine blk_drew ?_ | refine blk_alloc ?_ _)); exact BK325.out) hb); have n19_ := Aside0.mk (blk_below (g := gb372) (o := .cells #[.int .i64 t360, .slice Ao136 t361.length co136, .slice Ao137 t364.length co137, .int .i64 t367, .slice Ao138 t368.length co138] 31 (0, 0)) (by (with_reducible repeat (first | refine blk_drewN ?_ _ | refine blk_drew ?_ | refine blk_alloc ?_ _)); refine blk_put (cs := #[.int .i64 t360, .slice Ao136 t361.length co136, .slice Ao137 t364.length co137, .int .i64 t367, .slice none 0 0]) ?_ 4 _ rfl; (with_reducible repeat (first | refine blk_drewN ?_ _ | refine blk_drew ?_ | refine blk_alloc ?_ _)); refine blk_put (cs := #[.int .i64 t360, .slice Ao136 t361.length co136, .slice Ao137 t364.length co137, .int .i64 0, .slice none 0 0]) ?_ 3 _ rfl; (with_reducible repeat (first | refine blk_drewN ?_ _ | refine blk_drew ?_ | refine blk_alloc ?_ _)); refine blk_put (cs := #[.int .i64 t360, .slice Ao136 t361.length co136, .slice none 0 0, .int .i64 0, .slice none 0 0]) ?_ 2 _ rfl; (with_reducible repeat (first | refine blk_drewN ?_ _ | refine blk_drew ?_ | refine blk_alloc ?_ _)); refine blk_put (cs := #[.int .i64 t360, .slice none 0 0, .slice none 0 0, .int .i64 0, .slice none 0 0]) ?_ 1 _ rfl; (with_reducible repeat (first | refine blk_drewN ?_ _ | refine blk_drew ?_ | refine blk_alloc ?_ _)); refine blk_put (cs := #[.int .i64 0, .slice none 0 0, .slice none 0 0, .int .i64 0, .slice none 0 0]) ?_ 0 _ rfl; (with_reducible repeat (first | refine blk_drewN ?_ _ | refine blk_drew ?_ | refine blk_alloc ?_ _)); exact BK372.out) hb); have n20_ := Aside0.mk (below_step hb_ hb); clear HO_301001; clear HO_301002; clear HO_301004; clear HO_313001; clear HO_313002; clear HO_313004; clear HO_326001; clear HO_326002; clear HO_326004; clear HO352; clear HO355; clear HO359; clear HO363; clear HO366; clear HO370; clear BK275; clear BK300; clear BK312; clear BK325; clear BK372; clear HB; have HO_301001 := n0_; have HO_301002 := n1_; have HO_301004 := n2_; have HO_313001 := n3_; have HO_313002 := n4_; have HO_313004 := n5_; have HO_326001 := n6_; have HO_326002 := n7_; have HO_326004 := n8_; have HO352 := n9_; have HO355 := n10_; have HO359 := n11_; have HO363 := n12_; have HO366 := n13_; have HO370 := n14_; have BK275 := n15_; have BK300 := n16_; have BK312 := n17_; have BK325 := n18_; have BK372 := n19_; have HB := n20_; clear n0_ n1_ n2_ n3_ n4_ n5_ n6_ n7_ n8_ n9_ n10_ n11_ n12_ n13_ n14_ n15_ n16_ n17_ n18_ n19_ n20_; (try clear hb); (try clear hb2); (try clear hk); (try clear hi)))
                          go_meet
                          case rel => exact ⟨_, ((t371 != t299)), rs_, H', ⟨by have := HJ11.out; have := HJ68.out; first | omega | exact Nat.le_refl _⟩, ⟨by (try simp only [hl313001_68]); (try simp only [hl313002_68]); (try simp only [hl313004_68]); (with_reducible repeat (first | apply Kd.R_alloc | apply Kd.R_drewN | apply Kd.R_drew)); exact Kd.R_mono HO_301001.out (fun _ hk => ⟨hk.1.1.1.1.1, ⟨hk.1.1.1.1.2.1, ⟨hk.1.1.1.1.2.2.1, ⟨hk.1.1.1.1.2.2.2.1, ⟨hk.1.1.1.1.2.2.2.2, ⟨hk.1.2, hk.2⟩⟩⟩⟩⟩⟩)⟩, ⟨by (try simp only [hl313001_68]); (try simp only [hl313002_68]); (try simp only [hl313004_68]); (with_reducible repeat (first | apply Kd.R_alloc | apply Kd.R_drewN | apply Kd.R_drew)); exact Kd.R_mono HO_301002.out (fun _ hk => ⟨hk.1.1.1.1.1, ⟨hk.1.1.1.1.2.1, ⟨hk.1.1.1.1.2.2.1, ⟨hk.1.1.1.1.2.2.2.1, ⟨hk.1.1.1.1.2.2.2.2, ⟨hk.1.2, hk.2⟩⟩⟩⟩⟩⟩)⟩, ⟨by (try simp only [hl313001_68]); (try simp only [hl313002_68]); (try simp only [hl313004_68]); (with_reducible repeat (first | apply Kd.R_alloc | apply Kd.R_drewN | apply Kd.R_drew)); exact Kd.R_mono HO_301004.out (fun _ hk => ⟨hk.1.1.1, ⟨hk.1.1.2, hk.2⟩⟩)⟩, ⟨by (try simp only [hl313001_68]); (try simp only [hl313002_68]); (try simp only [hl313004_68]); (with_reducible repeat (first | apply Kd.R_alloc | apply Kd.R_drewN | apply Kd.R_drew)); exact Kd.R_mono HO_313001.out (fun _ hk => ⟨hk.1.1.1.1.1, ⟨hk.1.1.1.1.2.1, ⟨hk.1.1.1.1.2.2.1, ⟨hk.1.1.1.1.2.2.2.1, ⟨hk.1.1.1.1.2.2.2.2, ⟨hk.1.2, hk.2⟩⟩⟩⟩⟩⟩)⟩, ⟨by (try simp only [hl313001_68]); (try simp only [hl313002_68]); (try simp only [hl313004_68]); (with_reducible repeat (first | apply Kd.R_alloc | apply Kd.R_drewN | apply Kd.R_drew)); exact Kd.R_mono HO_313002.out (fun _ hk => ⟨hk.1.1.1.1.1, ⟨hk.1.1.1.1.2.1, ⟨hk.1.1.1.1.2.2.1, ⟨hk.1.1.1.1.2.2.2.1, ⟨hk.1.1.1.1.2.2.2.2, ⟨hk.1.2, hk.2⟩⟩⟩⟩⟩⟩)⟩, ⟨by (try simp only [hl313001_68]); (try simp only [hl313002_68]); (try simp only [hl313004_68]); (with_reducible repeat (first | apply Kd.R_alloc | apply Kd.R_drewN | apply Kd.R_drew)); exact Kd.R_mono HO_313004.out (fun _ hk => ⟨hk.1.1.1, ⟨hk.1.1.2, hk.2⟩⟩)⟩, ⟨by (try simp only [hl313001_68]); (try simp only [hl313002_68]); (try simp only [hl313004_68]); (with_reducible repeat (first | apply Kd.R_alloc | apply Kd.R_drewN | apply Kd.R_drew)); exact Kd.R_mono HO_326001.out (fun _ hk => ⟨hk.1.1.1.1.1, ⟨hk.1.1.1.1.2.1, ⟨hk.1.1.1.1.2.2.1, ⟨hk.1.1.1.1.2.2.2.1, ⟨hk.1.1.1.1.2.2.2.2, ⟨hk.1.2, hk.2⟩⟩⟩⟩⟩⟩)⟩, ⟨by (try simp only [hl313001_68]); (try simp only [hl313002_68]); (try simp only [hl313004_68]); (with_reducible repeat (first | apply Kd.R_alloc | apply Kd.R_drewN | apply Kd.R_drew)); exact Kd.R_mono HO_326002.out (fun _ hk => ⟨hk.1.1.1.1.1, ⟨hk.1.1.1.1.2.1, ⟨hk.1.1.1.1.2.2.1, ⟨hk.1.1.1.1.2.2.2.1, ⟨hk.1.1.1.1.2.2.2.2, ⟨hk.1.2, hk.2⟩⟩⟩⟩⟩⟩)⟩, ⟨by (try simp only [hl313001_68]); (try simp only [hl313002_68]); (try simp only [hl313004_68]); (with_reducible repeat (first | apply Kd.R_alloc | apply Kd.R_drewN | apply Kd.R_drew)); exact Kd.R_mono HO_326004.out (fun _ hk => ⟨hk.1.1.1, ⟨hk.1.1.2, hk.2⟩⟩)⟩, ⟨by (try simp only [hl313001_68]); (try simp only [hl313002_68]); (try simp only [hl313004_68]); (with_reducible repeat (first | apply Kd.R_alloc | apply Kd.R_drewN | apply Kd.R_drew)); exact Kd.R_mono HO363.out (fun _ hk => ⟨hk.1.1.1.1.1.1.1.2, ⟨hk.1.1.1.1.1.1.2, ⟨hk.1.1.1.1.1.2, ⟨hk.1.1.1.1.2, ⟨hk.1.1.1.2, ⟨hk.1.1.2, hk.1.1.1.1.1.1.1.1⟩⟩⟩⟩⟩⟩)⟩, ⟨by (try simp only [hl313001_68]); (try simp only [hl313002_68]); (try simp only [hl313004_68]); (with_reducible repeat (first | apply Kd.R_alloc | apply Kd.R_drewN | apply Kd.R_drew)); exact Kd.R_mono HO366.out (fun _ hk => ⟨hk.1.1.1.1.1.1.1.2, ⟨hk.1.1.1.1.1.1.2, ⟨hk.1.1.1.1.1.2, ⟨hk.1.1.1.1.2, ⟨hk.1.1.1.2, ⟨hk.1.1.2, hk.1.1.1.1.1.1.1.1⟩⟩⟩⟩⟩⟩)⟩, ⟨by (try simp only [hl313001_68]); (try simp only [hl313002_68]); (try simp only [hl313004_68]); (with_reducible repeat (first | apply Kd.R_alloc | apply Kd.R_drewN | apply Kd.R_drew)); exact Kd.R_mono HO370.out (fun _ hk => ⟨hk.1.1.1.2, ⟨hk.1.1.2, hk.1.2⟩⟩)⟩, ⟨by (try simp only [hl313001_68]); (try simp only [hl313002_68]); (try simp only [hl313004_68]); (with_reducible repeat (first | refine blk_drewN ?_ _ | refine blk_drew ?_ | refine blk_alloc ?_ _)); exact BK275.out⟩, ⟨by (try simp only [hl313001_68]); (try simp only [hl313002_68]); (try simp only [hl313004_68]); (with_reducible repeat (first | refine blk_drewN ?_ _ | refine blk_drew ?_ | refine blk_alloc ?_ _)); exact BK300.out⟩, ⟨by (try simp only [hl313001_68]); (try simp only [hl313002_68]); (try simp only [hl313004_68]); (with_reducible repeat (first | refine blk_drewN ?_ _ | refine blk_drew ?_ | refine blk_alloc ?_ _)); exact BK312.out⟩, ⟨by (try simp only [hl313001_68]); (try simp only [hl313002_68]); (try simp only [hl313004_68]); (with_reducible repeat (first | refine blk_drewN ?_ _ | refine blk_drew ?_ | refine blk_alloc ?_ _)); exact BK325.out⟩, ⟨by (try simp only [hl313001_68]); (try simp only [hl313002_68]); (try simp only [hl313004_68]); (with_reducible repeat (first | refine blk_drewN ?_ _ | refine blk_drew ?_ | refine blk_alloc ?_ _)); exact BK372.out⟩, ⟨hb_⟩⟩
                        · replace c140 := Bool.eq_false_iff.mpr c140
                          subst c140
                          have H1 : (laws_FnExactCelInput.j2 kj68 t344 true t313 t345 t346 t320 t347) = some r := by rw [if_neg (show ¬ (false = true) by decide)] at H; exact H
                          clear H
                          have H := H1
                          clear H1
                          exact absurd H (by rw [htrue.out]; cases kj68 <;> simp [laws_FnExactCelInput.j2])
                      case rest =>
                        clear HC114
                        try clear c1
                        try clear c2
                        try clear p2
                        try clear c3
                        try clear c4
                        try clear c4b0
                        try clear c5
                        try clear c6
                        try clear c7
                        try clear c8
                        try clear c9
                        try clear c10
                        try clear c11
                        try clear c12
                        try clear c13
                        try clear c14
                        try clear c15
                        try clear c23
                        try clear c31
                        try clear c32
                        try clear c39
                        try clear c40
                        try clear c41
                        try clear c47
                        try clear c48
                        try clear c49
                        try clear c50
                        try clear c52
                        try clear c53
                        try clear c56
                        try clear c57
                        try clear c58
                        try clear c60
                        try clear c61
                        try clear c64
                        try clear c67
                        try clear c76
                        try clear c77
                        try clear c78
                        try clear c81
                        try clear c81b0
                        try clear c83
                        try clear c84
                        try clear c85
                        try clear c86
                        try clear c88
                        try clear c89
                        try clear c92
                        try clear c93
                        try clear c94
                        try clear c96
                        try clear c97
                        try clear c100
                        try clear c103
                        try clear c103b0
                        try clear c104
                        try clear c105
                        try clear c106
                        try clear c111
                        try clear c111b0
                        try clear c111b1
                        try clear c115
                        try clear c116
                        try clear c117
                        try clear c122
                        try clear c123
                        try clear c131
                        try clear c132
                        try clear c133
                        try clear c134
                        try clear c140
                        try clear c141
                        try clear c142
                        try clear c143
                        try clear c144
                        try clear c146
                        try clear c147
                        try clear c148
                        try clear c151
                        try clear c152
                        try clear c153
                        try clear c154
                        try clear c156
                        try clear c157
                        try clear c158
                        try clear hcz107_0
                        try clear hcz107_1
                        try clear hcz107_2
                        try clear hcz107_3
                        try clear hcz107_4
                        try clear hcz109_0
                        try clear hcz109_1
                        try clear hcz109_2
                        try clear hcz109_3
                        try clear hcz109_4
                        try clear hcz118_0
                        try clear hcz118_1
                        try clear hcz118_2
                        try clear hcz118_3
                        try clear hcz118_4
                        try clear hcz120_0
                        try clear hcz120_1
                        try clear hcz120_2
                        try clear hcz120_3
                        try clear hcz120_4
                        try clear hcz124_0
                        try clear hcz124_1
                        try clear hcz124_2
                        try clear hcz124_3
                        try clear hcz124_4
                        try clear hcz135_0
                        try clear hcz135_1
                        try clear hcz135_2
                        try clear hcz135_3
                        try clear hcz135_4
                        try clear hcz145_0
                        try clear hcz145_1
                        try clear hcz145_2
                        try clear hcz145_3
                        try clear hcz145_4
                        try clear hcz149_0
                        try clear hcz149_1
                        try clear hcz149_2
                        try clear hcz149_3
                        try clear hcz149_4
                        try clear hcz14_0
                        try clear hcz14_1
                        try clear hcz14_2
                        try clear hcz14_3
                        try clear hcz14_4
                        try clear hcz155_0
                        try clear hcz155_1
                        try clear hcz155_2
                        try clear hcz155_3
                        try clear hcz155_4
                        try clear hcz159_0
                        try clear hcz159_1
                        try clear hcz159_2
                        try clear hcz159_3
                        try clear hcz159_4
                        try clear hcz16_0
                        try clear hcz16_1
                        try clear hcz16_2
                        try clear hcz16_3
                        try clear hcz16_4
                        try clear hcz24_0
                        try clear hcz24_1
                        try clear hcz24_2
                        try clear hcz24_3
                        try clear hcz24_4
                        try clear hcz28_0
                        try clear hcz28_1
                        try clear hcz28_2
                        try clear hcz28_3
                        try clear hcz28_4
                        try clear hcz33_0
                        try clear hcz33_1
                        try clear hcz33_2
                        try clear hcz33_3
                        try clear hcz33_4
                        try clear hcz42_0
                        try clear hcz42_1
                        try clear hcz42_2
                        try clear hcz42_3
                        try clear hcz42_4
                        try clear hcz51_0
                        try clear hcz51_1
                        try clear hcz51_2
                        try clear hcz51_3
                        try clear hcz51_4
                        try clear hcz54_0
                        try clear hcz54_1
                        try clear hcz54_2
                        try clear hcz54_3
                        try clear hcz54_4
                        try clear hcz59_0
                        try clear hcz59_1
                        try clear hcz59_2
                        try clear hcz59_3
                        try clear hcz59_4
                        try clear hcz62_0
                        try clear hcz62_1
                        try clear hcz62_2
                        try clear hcz62_3
                        try clear hcz62_4
                        try clear hcz6_0
                        try clear hcz6_1
                        try clear hcz6_2
                        try clear hcz6_3
                        try clear hcz6_4
                        try clear hcz79_0
                        try clear hcz79_1
                        try clear hcz79_2
                        try clear hcz79_3
                        try clear hcz79_4
                        try clear hcz87_0
                        try clear hcz87_1
                        try clear hcz87_2
                        try clear hcz87_3
                        try clear hcz87_4
                        try clear hcz90_0
                        try clear hcz90_1
                        try clear hcz90_2
                        try clear hcz90_3
                        try clear hcz90_4
                        try clear hcz95_0
                        try clear hcz95_1
                        try clear hcz95_2
                        try clear hcz95_3
                        try clear hcz95_4
                        try clear hcz98_0
                        try clear hcz98_1
                        try clear hcz98_2
                        try clear hcz98_3
                        try clear hcz98_4
                        try clear hfz107_0
                        try clear hfz107_1
                        try clear hfz107_2
                        try clear hfz107_3
                        try clear hfz107_4
                        try clear hfz109_0
                        try clear hfz109_1
                        try clear hfz109_2
                        try clear hfz109_3
                        try clear hfz109_4
                        try clear hfz118_0
                        try clear hfz118_1
                        try clear hfz118_2
                        try clear hfz118_3
                        try clear hfz118_4
                        try clear hfz120_0
                        try clear hfz120_1
                        try clear hfz120_2
                        try clear hfz120_3
                        try clear hfz120_4
                        try clear hfz124_0
                        try clear hfz124_1
                        try clear hfz124_2
                        try clear hfz124_3
                        try clear hfz124_4
                        try clear hfz135_0
                        try clear hfz135_1
                        try clear hfz135_2
                        try clear hfz135_3
                        try clear hfz135_4
                        try clear hfz145_0
                        try clear hfz145_1
                        try clear hfz145_2
                        try clear hfz145_3
                        try clear hfz145_4
                        try clear hfz149_0
                        try clear hfz149_1
                        try clear hfz149_2
                        try clear hfz149_3
                        try clear hfz149_4
                        try clear hfz14_0
                        try clear hfz14_1
                        try clear hfz14_2
                        try clear hfz14_3
                        try clear hfz14_4
                        try clear hfz155_0
                        try clear hfz155_1
                        try clear hfz155_2
                        try clear hfz155_3
                        try clear hfz155_4
                        try clear hfz159_0
                        try clear hfz159_1
                        try clear hfz159_2
                        try clear hfz159_3
                        try clear hfz159_4
                        try clear hfz16_0
                        try clear hfz16_1
                        try clear hfz16_2
                        try clear hfz16_3
                        try clear hfz16_4
                        try clear hfz24_0
                        try clear hfz24_1
                        try clear hfz24_2
                        try clear hfz24_3
                        try clear hfz24_4
                        try clear hfz28_0
                        try clear hfz28_1
                        try clear hfz28_2
                        try clear hfz28_3
                        try clear hfz28_4
                        try clear hfz33_0
                        try clear hfz33_1
                        try clear hfz33_2
                        try clear hfz33_3
                        try clear hfz33_4
                        try clear hfz42_0
                        try clear hfz42_1
                        try clear hfz42_2
                        try clear hfz42_3
                        try clear hfz42_4
                        try clear hfz51_0
                        try clear hfz51_1
                        try clear hfz51_2
                        try clear hfz51_3
                        try clear hfz51_4
                        try clear hfz54_0
                        try clear hfz54_1
                        try clear hfz54_2
                        try clear hfz54_3
                        try clear hfz54_4
                        try clear hfz59_0
                        try clear hfz59_1
                        try clear hfz59_2
                        try clear hfz59_3
                        try clear hfz59_4
                        try clear hfz62_0
                        try clear hfz62_1
                        try clear hfz62_2
                        try clear hfz62_3
                        try clear hfz62_4
                        try clear hfz6_0
                        try clear hfz6_1
                        try clear hfz6_2
                        try clear hfz6_3
                        try clear hfz6_4
                        try clear hfz79_0
                        try clear hfz79_1
                        try clear hfz79_2
                        try clear hfz79_3
                        try clear hfz79_4
                        try clear hfz87_0
                        try clear hfz87_1
                        try clear hfz87_2
                        try clear hfz87_3
                        try clear hfz87_4
                        try clear hfz90_0
                        try clear hfz90_1
                        try clear hfz90_2
                        try clear hfz90_3
                        try clear hfz90_4
                        try clear hfz95_0
                        try clear hfz95_1
                        try clear hfz95_2
                        try clear hfz95_3
                        try clear hfz95_4
                        try clear hfz98_0
                        try clear hfz98_1
                        try clear hfz98_2
                        try clear hfz98_3
                        try clear hfz98_4
                        try clear p2
                        obtain ⟨kq, x92_113, rfl, HA, HJ113, HO_301001, HO_301002, HO_301004, HO_313001, HO_313002, HO_313004, HO_326001, HO_326002, HO_326004, HO_373001, HO_373002, HO_373004, BK275, BK300, BK312, BK325, BK372, HB⟩ := hcut
                        have hl326001_113 := (Kd.R_reads' HO_326001.out).1
                        rw [hl326001_113] at HO_326001
                        (try simp only [hl326001_113])
                        (try simp only [hl326001_113] at BK275)
                        (try simp only [hl326001_113] at BK300)
                        (try simp only [hl326001_113] at BK312)
                        (try simp only [hl326001_113] at BK325)
                        (try simp only [hl326001_113] at BK372)
                        (try simp only [hl326001_113] at HO_301001)
                        (try simp only [hl326001_113] at HO_301002)
                        (try simp only [hl326001_113] at HO_301004)
                        (try simp only [hl326001_113] at HO_313001)
                        (try simp only [hl326001_113] at HO_313002)
                        (try simp only [hl326001_113] at HO_313004)
                        (try simp only [hl326001_113] at HO_326002)
                        (try simp only [hl326001_113] at HO_326004)
                        (try simp only [hl326001_113] at HO_373001)
                        (try simp only [hl326001_113] at HO_373002)
                        (try simp only [hl326001_113] at HO_373004)
                        have hl326002_113 := (Kd.R_reads' HO_326002.out).1
                        rw [hl326002_113] at HO_326002
                        (try simp only [hl326002_113])
                        (try simp only [hl326002_113] at BK275)
                        (try simp only [hl326002_113] at BK300)
                        (try simp only [hl326002_113] at BK312)
                        (try simp only [hl326002_113] at BK325)
                        (try simp only [hl326002_113] at BK372)
                        (try simp only [hl326002_113] at HO_301001)
                        (try simp only [hl326002_113] at HO_301002)
                        (try simp only [hl326002_113] at HO_301004)
                        (try simp only [hl326002_113] at HO_313001)
                        (try simp only [hl326002_113] at HO_313002)
                        (try simp only [hl326002_113] at HO_313004)
                        (try simp only [hl326002_113] at HO_326001)
                        (try simp only [hl326002_113] at HO_326004)
                        (try simp only [hl326002_113] at HO_373001)
                        (try simp only [hl326002_113] at HO_373002)
                        (try simp only [hl326002_113] at HO_373004)
                        have hl326004_113 := (Kd.R_reads' HO_326004.out).1
                        rw [hl326004_113] at HO_326004
                        (try simp only [hl326004_113])
                        (try simp only [hl326004_113] at BK275)
                        (try simp only [hl326004_113] at BK300)
                        (try simp only [hl326004_113] at BK312)
                        (try simp only [hl326004_113] at BK325)
                        (try simp only [hl326004_113] at BK372)
                        (try simp only [hl326004_113] at HO_301001)
                        (try simp only [hl326004_113] at HO_301002)
                        (try simp only [hl326004_113] at HO_301004)
                        (try simp only [hl326004_113] at HO_313001)
                        (try simp only [hl326004_113] at HO_313002)
                        (try simp only [hl326004_113] at HO_313004)
                        (try simp only [hl326004_113] at HO_326001)
                        (try simp only [hl326004_113] at HO_326002)
                        (try simp only [hl326004_113] at HO_373001)
                        (try simp only [hl326004_113] at HO_373002)
                        (try simp only [hl326004_113] at HO_373004)
                        cases kq with
                        | zero => exact absurd HA.out (by simp [laws_FnExactCelInput.j2])
                        | succ kj113 =>
                          have H := HA.out
                          clear HA
                          simp only [laws_FnExactCelInput.j2] at H
                          by_cases c161 : x92_113 = true
                          · subst c161
                            have H1 : (some false) = some r := by rw [if_pos rfl] at H; exact H
                            clear H
                            have H := H1
                            clear H1
                            exact absurd (Option.some.inj H) (by rw [htrue.out]; decide)
                          · replace c161 := Bool.eq_false_iff.mpr c161
                            subst c161
                            have H1 : ((laws_heldCelCell.f kj113 t313 t345 t346 t320 t347 1).bind fun t374 => (if t374 < 0 then (some false) else (if t374 = t344 then (some true) else (some false)))) = some r := by rw [if_neg (show ¬ (false = true) by decide)] at H; exact H
                            clear H
                            have H := H1
                            clear H1
                            replace H := Option.bind_eq_some_iff.mp H
                            obtain ⟨t374, A1620, H⟩ := H
                            replace H : (if t374 < 0 then (some false) else (if t374 = t344 then (some true) else (some false))) = some r := H
                            have A162 := Aside0.mk A1620
                            clear A1620
                            by_cases c163 : t374 < 0
                            · rw [if_pos c163] at H
                              exact absurd (Option.some.inj H) (by rw [htrue.out]; decide)
                            · rw [if_neg c163] at H
                              have c163b0 : decide (t374 < 0) = false := decide_eq_false c163
                              clear c163
                              by_cases c170 : t374 = t344
                              · rw [if_pos c170] at H
                                have c170b0 : (t374 == t344) = true := beq_iff_eq.mpr c170
                                have c170b1 : (t374 != t344) = false := bne_eq_false_iff_eq.mpr c170
                                clear c170
                                obtain rfl := Option.some.inj H
                                have hnb171 := NB325_275.out
                                have hnc171 := NB275_325.out
                                have hnb172 := NB325_300.out
                                have hnc172 := NB300_325.out
                                have hnb173 := NB325_312.out
                                have hnc173 := NB312_325.out
                                have hnb174 := NB325_372.out
                                have hnc174 := NB372_325.out
                                have hcz175_0 : wc.cell? ⟨gb325, 0, none⟩ = some (.int .i64 t313) := (blk_cell BK325.out 0).trans rfl
                                have hcz175_1 : wc.cell? ⟨gb325, 1, none⟩ = some (.slice Ao43 t345.length co43) := (blk_cell BK325.out 1).trans rfl
                                have hcz175_2 : wc.cell? ⟨gb325, 2, none⟩ = some (.slice Ao44 t346.length co44) := (blk_cell BK325.out 2).trans rfl
                                have hcz175_3 : wc.cell? ⟨gb325, 3, none⟩ = some (.int .i64 t320) := (blk_cell BK325.out 3).trans rfl
                                have hcz175_4 : wc.cell? ⟨gb325, 4, none⟩ = some (.slice Ao45 t347.length co45) := (blk_cell BK325.out 4).trans rfl
                                have hfz175_0 := blk_frozen BK325.out 0
                                have hfz175_1 := blk_frozen BK325.out 1
                                have hfz175_2 := blk_frozen BK325.out 2
                                have hfz175_3 := blk_frozen BK325.out 3
                                have hfz175_4 := blk_frozen BK325.out 4
                                go_wp2_with (first | ((with_reducible refine gate_callee (f := 11) rfl ?_); refine goesL_ (some 95) rfl rfl Try.func11 (by kernel_rfl) rfl #[.agg #[.int .i64 t313, .slice Ao43 t345.length co43, .slice Ao44 t346.length co44, .int .i64 t320, .slice Ao45 t347.length co45], .int .i64 1] rfl ml_ ?_; (with_reducible refine (laws_heldCelCell.calls kj113 t313 _ _ t345 _ _ t346 t320 _ _ t347 1 t374 _ ?side1 ?side2 ?side3 ?side4 ?side5 ?side6 A162.out).mono ?_); (case side1 => repeat (first | exact (Kd.R_reads' HO_326001.out).2.2 | (with_reducible refine Kd.C_alloc ?_ _) | (with_reducible refine Kd.C_drewN ?_ _) | (with_reducible refine Kd.C_drew ?_))); (case side2 => exact (Kd.R_reads' HO_326001.out).2.1); (case side3 => repeat (first | exact (Kd.R_reads' HO_326002.out).2.2 | (with_reducible refine Kd.C_alloc ?_ _) | (with_reducible refine Kd.C_drewN ?_ _) | (with_reducible refine Kd.C_drew ?_))); (case side4 => exact (Kd.R_reads' HO_326002.out).2.1); (case side5 => repeat (first | exact (Kd.R_reads' HO_326004.out).2.2 | (with_reducible refine Kd.C_alloc ?_ _) | (with_reducible refine Kd.C_drewN ?_ _) | (with_reducible refine Kd.C_drew ?_))); (case side6 => exact (Kd.R_reads' HO_326004.out).2.1); rintro e w176 ⟨rfl, hb⟩; refine ⟨_, rfl, ?_⟩; have n0_ := Aside0.mk (Kd.R_below (by (with_reducible repeat (first | apply Kd.R_alloc | apply Kd.R_drewN | apply Kd.R_drew)); exact HO_301001.out) hb); have n1_ := Aside0.mk (Kd.R_below (by (with_reducible repeat (first | apply Kd.R_alloc | apply Kd.R_drewN | apply Kd.R_drew)); exact HO_301002.out) hb); have n2_ := Aside0.mk (Kd.R_below (by (with_reducible repeat (first | apply Kd.R_alloc | apply Kd.R_drewN | apply Kd.R_drew)); exact HO_301004.out) hb); have n3_ := Aside0.mk (Kd.R_below (by (with_reducible repeat (first | apply Kd.R_alloc | apply Kd.R_drewN | apply Kd.R_drew)); exact HO_313001.out) hb); have n4_ := Aside0.mk (Kd.R_below (by (with_reducible repeat (first | apply Kd.R_alloc | apply Kd.R_drewN | apply Kd.R_drew)); exact HO_313002.out) hb); have n5_ := Aside0.mk (Kd.R_below (by (with_reducible repeat (first | apply Kd.R_alloc | apply Kd.R_drewN | apply Kd.R_drew)); exact HO_313004.out) hb); have n6_ := Aside0.mk (Kd.R_below (by (with_reducible repeat (first | apply Kd.R_alloc | apply Kd.R_drewN | apply Kd.R_drew)); exact HO_326001.out) hb); have n7_ := Aside0.mk (Kd.R_below (by (with_reducible repeat (first | apply Kd.R_alloc | apply Kd.R_drewN | apply Kd.R_drew)); exact HO_326002.out) hb); have n8_ := Aside0.mk (Kd.R_below (by (with_reducible repeat (first | apply Kd.R_alloc | apply Kd.R_drewN | apply Kd.R_drew)); exact HO_326004.out) hb); have n9_ := Aside0.mk (Kd.R_below (by (with_reducible repeat (first | apply Kd.R_alloc | apply Kd.R_drewN | apply Kd.R_drew)); exact HO_373001.out) hb); have n10_ := Aside0.mk (Kd.R_below (by (with_reducible repeat (first | apply Kd.R_alloc | apply Kd.R_drewN | apply Kd.R_drew)); exact HO_373002.out) hb); have n11_ := Aside0.mk (Kd.R_below (by (with_reducible repeat (first | apply Kd.R_alloc | apply Kd.R_drewN | apply Kd.R_drew)); exact HO_373004.out) hb); have n12_ := Aside0.mk (blk_below (g := gb275) (o := .cells #[.int .i64 a0_0, .slice A0_1 l0_1.length c0_1, .slice A0_2 l0_2.length c0_2, .int .i64 a0_3, .slice A0_4 l0_4.length c0_4] 27 (0, 0)) bk_ hb); have n13_ := Aside0.mk (blk_below (g := gb300) (o := .cells #[.int .i64 t288, .slice Ao25 t289.length co25, .slice Ao26 t292.length co26, .int .i64 t295, .slice Ao27 t296.length co27] 31 (0, 0)) bk_ hb); have n14_ := Aside0.mk (blk_below (g := gb312) (o := .cells #[.int .i64 t301, .slice Ao34 t340.length co34, .slice Ao35 t341.length co35, .int .i64 t308, .slice Ao36 t342.length co36] 31 (0, 0)) bk_ hb); have n15_ := Aside0.mk (blk_below (g := gb325) (o := .cells #[.int .i64 t313, .slice Ao43 t345.length co43, .slice Ao44 t346.length co44, .int .i64 t320, .slice Ao45 t347.length co45] 31 (0, 0)) bk_ hb); have n16_ := Aside0.mk (blk_below (g := gb372) (o := .cells #[.int .i64 t360, .slice Ao136 t361.length co136, .slice Ao137 t364.length co137, .int .i64 t367, .slice Ao138 t368.length co138] 31 (0, 0)) bk_ hb); have n17_ := Aside0.mk (below_step hb_ hb); clear HO_301001; clear HO_301002; clear HO_301004; clear HO_313001; clear HO_313002; clear HO_313004; clear HO_326001; clear HO_326002; clear HO_326004; clear HO_373001; clear HO_373002; clear HO_373004; clear BK275; clear BK300; clear BK312; clear BK325; clear BK372; clear HB; have HO_301001 := n0_; have HO_301002 := n1_; have HO_301004 := n2_; have HO_313001 := n3_; have HO_313002 := n4_; have HO_313004 := n5_; have HO_326001 := n6_; have HO_326002 := n7_; have HO_326004 := n8_; have HO_373001 := n9_; have HO_373002 := n10_; have HO_373004 := n11_; have BK275 := n12_; have BK300 := n13_; have BK312 := n14_; have BK325 := n15_; have BK372 := n16_; have HB := n17_; clear n0_ n1_ n2_ n3_ n4_ n5_ n6_ n7_ n8_ n9_ n10_ n11_ n12_ n13_ n14_ n15_ n16_ n17_; (try clear hb); (try clear hb2); (try clear hk); (try clear hi)))
                                go_ret
                                exact ⟨by first | rfl | (simp [errW_none, errW_some] <;> rfl) | (simp [*, errW_none, errW_some] <;> rfl), hb_⟩
                              · rw [if_neg c170] at H
                                exact absurd (Option.some.inj H) (by rw [htrue.out]; decide)
                    · rw [if_neg c111] at H
                      exact absurd (Option.some.inj H) (by rw [htrue.out]; decide)
          · replace c67 := Bool.eq_false_iff.mpr c67
            subst c67
            have H1 : (some false) = some r := by rw [if_neg (show ¬ (false = true) by decide)] at H; exact H
            clear H
            have H := H1
            clear H1
            exact absurd (Option.some.inj H) (by rw [htrue.out]; decide)

end Go.Proofs.Ytinbciedkhjcmaa.Z
