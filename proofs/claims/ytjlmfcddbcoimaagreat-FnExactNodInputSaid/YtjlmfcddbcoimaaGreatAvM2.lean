/- The engine, part 3 of 3: abstract values and an evaluator of code over them. -/
import Derived.Test.YtjlmfcddbcoimaaGreatAvM1
section
/- Engine: steps that no code does: slices go back into the rows that name them; an object is shut; results after such steps. -/
set_option linter.unusedVariables false
set_option linter.unusedSimpArgs false
set_option autoImplicit false
namespace Go.Av
variable {P : Program}
theorem Le.trans [Known P] {n : Nat} {s s' s'' : St} (h : Le P n s s') (h' : Le P n s' s'') : Le P n s s'' := fun B a w hn hr => h' B a w hn (h B a w hn hr)
/-- The slices that a row names go back into it. -/
def absRow (h : Hp) (o i : Nat) : Hp := match geth h o with
  | some ob => (o, ⟨ob.e, ob.rows.set i (absC (remh h o) (ob.rows.getD i ob.d)).1, ob.d, ob.g⟩) :: (absC (remh h o) (ob.rows.getD i ob.d)).2
  | none => h
theorem absRow_rep {C : Cx} {h : Hp} {F : Foot} {o i : Nat} {ob : Ob} (hh : RepH C h F) (hg : geth h o = some ob) (gg : ob.g = true) (hi : i < ob.rows.length) : ∃ F', RepH C (absRow h o i) F' ∧ ∀ b, F' b = F b := by
  obtain ⟨G1, G2, m1, m2, m3⟩ := RepH.take h F o ob hh hg
  obtain ⟨hlt, m1⟩ := m1
  rcases m1 with ⟨_, _, _, hr, _⟩ | ⟨b, c, t, FR, h1, h2, h3, h4, h5, h6, h7, h8, h9⟩
  · rw [hr] at hi; exact absurd hi (Nat.not_lt_zero _)
  · obtain ⟨row, hrow⟩ : ∃ row, ob.rows[i]? = some row := ⟨_, List.getElem?_eq_getElem hi⟩
    have hget : ob.rows.getD i ob.d = row := by rw [List.getD_eq_getElem?_getD, hrow]; rfl
    rw [gg] at h8
    obtain ⟨el, A, R, k1, k2, k3⟩ := RepO.focus ob.rows 0 FR i row h8 hrow
    obtain ⟨vs, v1, v2, v3, v4⟩ := RepB.to_list row _ A k1
    obtain ⟨X1, X2, x1, x2, x3⟩ := absC_sound' row (remh h o) A G2 vs v1 m2
    have hB := RepB.of_list (c := c) _ vs (0 + i * ob.e) X1 v3 v4 x1
    have hl : (absC (remh h o) row).1.length = ob.e := by rw [absC_length]; exact el
    have hO := k3 C _ c X1 ⟨fun _ h => h, fun _ _ => rfl, Nat.le_refl _, fun _ _ => rfl⟩ (fun _ _ => rfl) hl hB (fun _ _ => rfl)
    refine ⟨fun b => G1 b + G2 b, ?_, fun b => (m3 b).symm⟩
    simp only [absRow, hg, hget]
    refine ⟨fun x => (if x = b then 1 else 0) + (X1 x + R x), X2, ⟨hlt, .inr ⟨b, c, t, _, h1, by simpa using h2, h3, by simpa using h4, by simpa using h5, h6, h7, ?_, fun _ => rfl⟩⟩, x2, fun y => ?_⟩
    · rw [gg]; exact hO
    · have e1 := h9 y; have e2 := k2 y; have e3 := x3 y
      simp only at *
      omega
theorem Le.abs [Known P] {n : Nat} {s : St} (o i : Nat) (ob : Ob) (h0 : n ≤ s.nx) (hg : geth s.hp o = some ob) (gg : ob.g = true) (hi : i < ob.rows.length) : Le P n s ⟨s.tm, absRow s.hp o i, s.nx⟩ := by
  rintro B a w rfl ⟨mu, F, c⟩
  obtain ⟨F', k1, k2⟩ := absRow_rep c.hp hg gg hi
  obtain rfl : F' = F := funext k2
  exact ⟨mu, F', c.defers, h0, c.mub, c.os, c.tape, c.output, c.size, c.old, c.one, c.blk, c.tm, k1⟩
theorem npR_pu {C : Cx} {e : Nat} {c : Array Value} : ∀ (l : List (List AV)) (off : Nat) (F : Foot), RepO C e l c off F → (∀ r ∈ l, npL r = true) → RepO C.pu e l c off F
  | [], off, F, h, k => h
  | r :: l, off, F, h, k => by
    obtain ⟨F1, F2, e1, h1, h2, h3⟩ := h
    obtain ⟨vs, v1, v2, v3, v4⟩ := RepB.to_list r off F1 h1
    refine ⟨F1, F2, e1, RepB.of_list r vs off F1 v3 v4 (npL_sel false v1 (by rw [k r List.mem_cons_self]; rfl)), npR_pu l _ F2 h2 (fun r' hr => k r' (List.mem_cons_of_mem _ hr)), h3⟩
theorem seth_rep {C : Cx} : ∀ (h : Hp) (F : Foot) (o : Nat) (ob ob' : Ob), RepH C h F → geth h o = some ob → (∀ G, RepOb C o ob G → RepOb C o ob' G) → RepH C (seth h o ob') F
  | [], F, o, ob, ob', hh, hg, k => by simp [geth] at hg
  | (m, x) :: h, F, o, ob, ob', hh, hg, k => by
    obtain ⟨F1, F2, h1, h2, h3⟩ := hh
    simp only [geth, seth] at *
    cases hb : Nat.beq m o with
    | true =>
      rw [hb] at hg
      obtain rfl := Nat.eq_of_beq_eq_true hb
      obtain rfl : x = ob := Option.some.inj hg
      exact ⟨F1, F2, k F1 h1, h2, h3⟩
    | false =>
      rw [hb] at hg
      exact ⟨F1, F2, h1, seth_rep h F2 o ob ob' h2 hg k, h3⟩
/-- No other object is named in it any more. -/
theorem Le.shut [Known P] {n : Nat} {s : St} (o : Nat) (ob : Ob) (h0 : n ≤ s.nx) (hg : geth s.hp o = some ob) (k : ∀ r ∈ ob.rows, npL r = true) : Le P n s ⟨s.tm, seth s.hp o ⟨ob.e, ob.rows, ob.d, false⟩, s.nx⟩ := by
  rintro B a w rfl ⟨mu, F, c⟩
  refine ⟨mu, F, c.defers, h0, c.mub, c.os, c.tape, c.output, c.size, c.old, c.one, c.blk, c.tm, seth_rep _ _ _ _ _ c.hp hg fun G hG => ?_⟩
  obtain ⟨hlt, hG⟩ := hG
  refine ⟨hlt, ?_⟩
  rcases hG with h | ⟨b, cc, t, FR, h1, h2, h3, h4, h5, h6, h7, h8, h9⟩
  · exact .inl h
  · refine .inr ⟨b, cc, t, FR, h1, h2, h3, h4, h5, h6, h7, ?_, h9⟩
    cases hgg : ob.g with
    | true => rw [hgg] at h8; exact npR_pu _ _ _ h8 k
    | false => rw [hgg] at h8; exact h8
/-- What a function's end must give, after such steps. -/
def RetG (P : Program) [Known P] (n : Nat) (rs : List ResultVar) (Q : AV → Hp → Prop) (e : Exit) (s : St) : Prop := match e with
  | .normal => ∃ s', Le P n s s' ∧ resW P rs s'.tm s'.hp (fun vs h => ∃ r hout, Q r hout ∧ sub (pkR vs) r ∧ selH h hout)
  | .ret => ∃ s', Le P n s s' ∧ resW P rs s'.tm s'.hp (fun vs h => ∃ r hout, Q r hout ∧ sub (pkR vs) r ∧ selH h hout)
  | _ => False
theorem RetGE [Known P] {n : Nat} {rs : List ResultVar} {Q : AV → Hp → Prop} : (∀ s, RetG P n rs Q .normal s = ∃ s', Le P n s s' ∧ resW P rs s'.tm s'.hp (fun vs h => ∃ r hout, Q r hout ∧ sub (pkR vs) r ∧ selH h hout)) ∧ (∀ s, RetG P n rs Q .ret s = ∃ s', Le P n s s' ∧ resW P rs s'.tm s'.hp (fun vs h => ∃ r hout, Q r hout ∧ sub (pkR vs) r ∧ selH h hout)) :=
  ⟨fun _ => rfl, fun _ => rfl⟩
theorem RetG.le [Known P] {n : Nat} {rs : List ResultVar} {Q : AV → Hp → Prop} {e : Exit} {s s' : St} (hl : Le P n s s') (h : RetG P n rs Q e s') : RetG P n rs Q e s := by
  cases e with
  | normal => obtain ⟨x, h1, h2⟩ := h; exact ⟨x, hl.trans h1, h2⟩
  | ret => obtain ⟨x, h1, h2⟩ := h; exact ⟨x, hl.trans h1, h2⟩
  | _ => exact h
theorem RetG.fin [Known P] {n : Nat} {rs : List ResultVar} {Q : AV → Hp → Prop} {e : Exit} {s : St} (h : RetX P rs Q e s) : RetG P n rs Q e s := by
  cases e with
  | normal => exact ⟨s, fun _ _ _ _ h => h, h⟩
  | ret => exact ⟨s, fun _ _ _ _ h => h, h⟩
  | _ => exact h
theorem FunX.m [Known P] {f : FuncId} {n : Nat} {args : List AV} {hin hout : Hp} {r : AV} (h : FunX P f n args hin fun r' h' => r' = r ∧ h' = hout) : FunM P f n args hin r hout := ⟨h.en, h.call⟩
theorem callG_of [Known P] {f : FuncId} {fn : Func} {n : Nat} {args : List AV} {hin : Hp} {Q : AV → Hp → Prop} (hf : P.funcs[f]? = some fn) (hb : fn.body.isSome = true) (hfit : fitC fn.ntmps (fn.body.getD .skip) = true) (ha : Nat.ble args.length fn.ntmps = true)
    (h : limL args → wpc P n (fn.body.getD .skip) (RetG P n fn.results.toList Q) ⟨argTm 0 args, hin, n⟩) : CallX P f n args hin Q := by
  intro B vs hn h1 h2 hargs hhin
  subst hn
  obtain ⟨c, hc⟩ := Option.isSome_iff_exists.1 hb
  rw [hc, Option.getD_some] at h hfit
  replace h := h (limL_of _ _ _ hargs)
  have hlen : vs.length = args.length := RepL.length _ _ _ hargs
  have ha' := Nat.le_of_ble_eq_true ha
  refine calls_of_wp hf hc (wp_mono (wpc_sound (B := { B with ds := [] }) (n := fn.ntmps) c _ ⟨argTm 0 args, hin, B.n⟩ _ B.w hfit ?_ ?_ h) ?_)
  · simp; omega
  · refine ⟨B.mu, B.F, rfl, Nat.le_refl _, fun _ _ => rfl, rfl, rfl, rfl, Nat.le_refl _, fun _ _ _ => rfl, h1, fun b hb => ⟨h2 b hb, .inr hb⟩, argTm_rep _ 0 vs _ hargs (fun i v hi => ?_), hhin⟩
    have hi' := (List.getElem?_eq_some_iff.1 hi).1
    simp only [Nat.zero_add, Array.getD, Array.size_append, List.size_toArray]
    rw [dif_pos (by omega)]
    have : (vs.toArray ++ Array.replicate (fn.ntmps - vs.toArray.size) undef)[i]? = some v := by
      rw [Array.getElem?_append_left (by simpa using hi')]; simpa using hi
    rw [Array.getElem?_eq_getElem (by simp; omega)] at this
    exact Option.some.inj this
  · rintro e a w ⟨hs, s0, hrel, hq⟩
    have main : (∃ s', Le P B.n s0 s' ∧ resW P fn.results.toList s'.tm s'.hp (fun vs h => ∃ r hout, Q r hout ∧ sub (pkR vs) r ∧ selH h hout)) → a.defers = [] ∧ ∃ v, (results fn a.tmps).run P w = .ok v w ∧ ∃ (r : AV) (hout : Hp), Q r hout ∧ ∃ (v' : Value) (mu' : Nat → Hdr) (n' : Nat) (F' Fr Fh : Foot), Ending.returned v = .returned v' ∧ B.n ≤ n' ∧ (∀ o, o < B.n → mu' o = B.mu o) ∧ Fin B w F' ∧
        (∀ b, F' b = Fr b + Fh b) ∧ Rep (cx B w mu' F' n') r v' Fr ∧ RepH (cx B w mu' F' n') hout Fh := by
      rintro ⟨s, hls, hq⟩
      obtain ⟨mu, F, core⟩ := hls { B with ds := [] } a w rfl hrel
      obtain ⟨vs', h', us, Fr, Fh, ⟨r, hout, hQ, hsub, hsel⟩, hrun, hL, hH, hle⟩ := resW_sound core.tm _ _ _ _ core.hp hq
      obtain ⟨Fo, k1, k2⟩ := selH_sound _ _ _ hH hsel
      refine ⟨core.defers, _, results_run hrun, r, hout, hQ, _, mu, s.nx, fun b => Fr b + Fo b, Fr, Fo, rfl, core.nx, core.mub, ?_, fun _ => rfl, ?_, ?_⟩
      · refine ⟨core.os, core.tape, core.output, core.size, core.old, fun b => ?_, fun b hb => core.blk b ?_⟩
        · have := hle b; have := k2 b; have := core.one b; show Fr b + Fo b ≤ 1; omega
        · have := hle b; have := k2 b; have hb' : Fr b + Fo b ≠ 0 := hb; omega
      all_goals
        have hx : Ext (cx B w mu F s.nx) (cx B w mu (fun b => Fr b + Fo b) s.nx) := ⟨fun b hb => ⟨hb.1, by have := hle b; have := k2 b; have := hb.2.1; show Fr b + Fo b = 0; omega, hb.2.2⟩, fun _ _ => rfl, Nat.le_refl _, fun _ _ => rfl⟩
      · exact (sub_rep _ _ _ _ (pkR_rep hL) hsub).mono hx _ _ _ (fun _ _ => rfl)
      · exact RepH.mono hx _ _ k1 (fun _ _ => rfl)
    cases e with
    | normal => exact main hq
    | ret => exact main hq
    | _ => exact hq.elim
theorem fun_ofG [Known P] {f : FuncId} {fn : Func} {n : Nat} {args : List AV} {hin : Hp} {Q : AV → Hp → Prop} (hf : P.funcs[f]? = some fn) (hn : (fn.name == "runtime.NumGoroutine") = false) (hb : fn.body.isSome = true) (hfit : fitC fn.ntmps (fn.body.getD .skip) = true) (ha : Nat.ble args.length fn.ntmps = true)
    (h : limL args → wpc P n (fn.body.getD .skip) (RetG P n fn.results.toList Q) ⟨argTm 0 args, hin, n⟩) : FunX P f n args hin Q :=
  ⟨enters_of hf hn (by cases hc : fn.body <;> simp_all), callG_of hf hb hfit ha h⟩
/-- What comes back is never written again. -/
theorem FunX.frz [Known P] {f : FuncId} {n : Nat} {args : List AV} {hin : Hp} {Q Q' : AV → Hp → Prop} (h : FunX P f n args hin Q) (k : ∀ r hout, Q r hout → r.np = true ∧ Q' r.rd hout) : FunX P f n args hin Q' := by
  refine ⟨h.en, fun B vs hBn hF hFb hargs hh => ?_⟩
  refine (h.call B vs hBn hF hFb hargs hh).mono fun e w' ⟨r, hout, hQ, v, mu', n', F', Fr, Fh, he, hn, hmu, hfin, hsum, hr, ho⟩ => ?_
  obtain ⟨hnp, hQ'⟩ := k r hout hQ
  have hle : ∀ b, Fh b ≤ F' b := fun b => by have := hsum b; omega
  have hx : Ext (cx B w' mu' F' n') (cx B w' mu' Fh n') := ⟨fun b hb => ⟨hb.1, by have := hle b; have := hb.2.1; omega, hb.2.2⟩, fun _ _ => rfl, Nat.le_refl _, fun _ _ => rfl⟩
  have hp : Rep (cx B w' mu' F' n').pu r v Fr := np_rep ⟨fun _ h => h, fun _ _ => rfl, Nat.le_refl _, fun _ _ => rfl⟩ r v Fr hr (fun _ _ => rfl) hnp
  have hrd := rd_rep (C := cx B w' mu' F' n') (w := w') (ok := (cx B w' mu' Fh n').ok) rfl hx.ok r v Fr hp (fun b hb => by
    have h1 := hsum b; have h2 := hfin.one b
    have h3 := hfin.blk b (by omega)
    exact ⟨h3.1, by omega, .inr h3.2⟩)
  have hrd2 : Rep (cx B w' mu' Fh n') r.rd v (fun _ => 0) := Rep.mono (ext_pu _) _ _ _ hrd (fun _ _ => rfl)
  refine ⟨r.rd, hout, hQ', v, mu', n', Fh, fun _ => 0, Fh, he, hn, hmu, ⟨hfin.os, hfin.tape, hfin.output, hfin.size, hfin.old, fun b => Nat.le_trans (hle b) (hfin.one b), fun b hb => hfin.blk b (by have := hle b; omega)⟩, fun b => by simp, hrd2, RepH.mono hx _ _ ho (fun _ _ => rfl)⟩
end Go.Av
end

section
/- Engine: what the evaluator unfolds, under a few names. -/
set_option linter.unusedVariables false
set_option autoImplicit false
namespace Go.Av
/-- Places by their names. -/
theorem eG : (type_of% @gtm.eq_1) ∧ (type_of% @gtm.eq_2) ∧ (type_of% @geth.eq_1) ∧ (type_of% @geth.eq_2) ∧ (type_of% @remh.eq_1) ∧ (type_of% @remh.eq_2) ∧ (type_of% @sub.eq_1) ∧ (type_of% @sub.eq_2) ∧ (type_of% @sub.eq_3) ∧ (type_of% @sub.eq_4) ∧ (type_of% @sub.eq_5) ∧ (type_of% @sub.eq_6) ∧ (type_of% @sub.eq_7) ∧ (type_of% @sub.eq_8) ∧ (type_of% @sub.eq_9) ∧ (type_of% @sub.eq_10) ∧ (type_of% @sub.eq_11) ∧ (type_of% @sub.eq_12) ∧ (type_of% @sub.eq_13) ∧ (type_of% @sub.eq_14) ∧ (type_of% @sub.eq_15) ∧ (type_of% @subL.eq_1) ∧ (type_of% @subL.eq_2) ∧ (type_of% @subL.eq_3) :=
  ⟨@gtm.eq_1, @gtm.eq_2, @geth.eq_1, @geth.eq_2, @remh.eq_1, @remh.eq_2, @sub.eq_1, @sub.eq_2, @sub.eq_3, @sub.eq_4, @sub.eq_5, @sub.eq_6, @sub.eq_7, @sub.eq_8, @sub.eq_9, @sub.eq_10, @sub.eq_11, @sub.eq_12, @sub.eq_13, @sub.eq_14, @sub.eq_15, @subL.eq_1, @subL.eq_2, @subL.eq_3⟩
/-- What is told by its parts. -/
theorem eF : (type_of% @eqK.eq_1) ∧ (type_of% @eqK.eq_2) ∧ (type_of% @eqK.eq_3) ∧ (type_of% @instC.eq_1) ∧ (type_of% @instC.eq_2) ∧ (type_of% @instC.eq_3) ∧ (type_of% @instT.eq_1) ∧ (type_of% @instT.eq_2) ∧ (type_of% @argTm.eq_1) ∧ (type_of% @argTm.eq_2) ∧ (type_of% @resR.eq_1) ∧ (type_of% @resR.eq_2) ∧ (type_of% @resR.eq_3) ∧ (type_of% @dstOf.eq_1) ∧ (type_of% @dstOf.eq_2) ∧ (type_of% @dstOf.eq_3) ∧ (type_of% @seth.eq_1) ∧ (type_of% @seth.eq_2) ∧ (type_of% @bldW.eq_1) ∧ (type_of% @bldW.eq_2) ∧ (type_of% @rowsW.eq_1) ∧ (type_of% @rowsW.eq_2) ∧ (type_of% @rdR.eq_1) ∧ (type_of% @rdR.eq_2) ∧ (type_of% @rdL.eq_1) ∧ (type_of% @rdL.eq_2) ∧ (type_of% @ofVal.eq_1) ∧ (type_of% @ofVal.eq_2) ∧ (type_of% @ofVal.eq_3) ∧ (type_of% @ofVal.eq_4) ∧ (type_of% @ofVal.eq_5) ∧ (type_of% @ofVal.eq_6) ∧ (type_of% @ofVal.eq_7) ∧ (type_of% @ofVal.eq_8) ∧ (type_of% @ofVal.eq_9) ∧ (type_of% @ofVal.eq_10) ∧ (type_of% @resW.eq_1) ∧ (type_of% @resW.eq_2) ∧ (type_of% @resW.eq_3) ∧ (type_of% @absC.eq_1) ∧ (type_of% @absC.eq_2) ∧ (type_of% @absC.eq_3) ∧ (type_of% @selH.eq_1) ∧ (type_of% @selH.eq_2) ∧ (type_of% @puL.eq_1) ∧ (type_of% @puL.eq_2) ∧ (type_of% @AV.pu.eq_1) ∧ (type_of% @AV.pu.eq_2) ∧ (type_of% @AV.pu.eq_3) ∧ (type_of% @AV.pu.eq_4) ∧ (type_of% @AV.pu.eq_5) ∧ (type_of% @AV.pu.eq_6) ∧ (type_of% @npL.eq_1) ∧ (type_of% @npL.eq_2) ∧ (type_of% @AV.np.eq_1) ∧ (type_of% @AV.np.eq_2) ∧ (type_of% @AV.np.eq_3) ∧ (type_of% @AV.np.eq_4) ∧ (type_of% @AV.np.eq_5) ∧ (type_of% @AV.np.eq_6) ∧ (type_of% @AV.np.eq_7) ∧ (type_of% @List.drop.eq_1.{0}) ∧ (type_of% @List.drop.eq_2.{0}) ∧ (type_of% @List.drop.eq_3.{0}) ∧ (type_of% @List.take.eq_1.{0}) ∧ (type_of% @List.take.eq_2.{0}) ∧ (type_of% @List.take.eq_3.{0}) ∧ (type_of% @List.set.eq_1.{0}) ∧ (type_of% @List.set.eq_2.{0}) ∧ (type_of% @List.set.eq_3.{0}) ∧ (type_of% @List.all.eq_1.{0}) ∧ (type_of% @List.all.eq_2.{0}) :=
  ⟨@eqK.eq_1, @eqK.eq_2, @eqK.eq_3, @instC.eq_1, @instC.eq_2, @instC.eq_3, @instT.eq_1, @instT.eq_2, @argTm.eq_1, @argTm.eq_2, @resR.eq_1, @resR.eq_2, @resR.eq_3, @dstOf.eq_1, @dstOf.eq_2, @dstOf.eq_3, @seth.eq_1, @seth.eq_2, @bldW.eq_1, @bldW.eq_2, @rowsW.eq_1, @rowsW.eq_2, @rdR.eq_1, @rdR.eq_2, @rdL.eq_1, @rdL.eq_2, @ofVal.eq_1, @ofVal.eq_2, @ofVal.eq_3, @ofVal.eq_4, @ofVal.eq_5, @ofVal.eq_6, @ofVal.eq_7, @ofVal.eq_8, @ofVal.eq_9, @ofVal.eq_10, @resW.eq_1, @resW.eq_2, @resW.eq_3, @absC.eq_1, @absC.eq_2, @absC.eq_3, @selH.eq_1, @selH.eq_2, @puL.eq_1, @puL.eq_2, @AV.pu.eq_1, @AV.pu.eq_2, @AV.pu.eq_3, @AV.pu.eq_4, @AV.pu.eq_5, @AV.pu.eq_6, @npL.eq_1, @npL.eq_2, @AV.np.eq_1, @AV.np.eq_2, @AV.np.eq_3, @AV.np.eq_4, @AV.np.eq_5, @AV.np.eq_6, @AV.np.eq_7, @List.drop.eq_1.{0}, @List.drop.eq_2.{0}, @List.drop.eq_3.{0}, @List.take.eq_1.{0}, @List.take.eq_2.{0}, @List.take.eq_3.{0}, @List.set.eq_1.{0}, @List.set.eq_2.{0}, @List.set.eq_3.{0}, @List.all.eq_1.{0}, @List.all.eq_2.{0}⟩
/-- What one state says more than another. -/
theorem eH : (type_of% @leT.eq_1) ∧ (type_of% @leT.eq_2) ∧ (type_of% @leH.eq_1) ∧ (type_of% @leH.eq_2) ∧ (type_of% @leR.eq_1) ∧ (type_of% @leR.eq_2) ∧ (type_of% @leR.eq_3) ∧ (type_of% @leN.eq_1) ∧ (type_of% @leN.eq_2) ∧ (type_of% @lkR.eq_1) ∧ (type_of% @lkR.eq_2) ∧ (type_of% @ren.eq_1) ∧ (type_of% @ren.eq_2) ∧ (type_of% @ren.eq_3) ∧ (type_of% @ren.eq_4) ∧ (type_of% @ren.eq_5) ∧ (type_of% @ren.eq_6) ∧ (type_of% @ren.eq_7) ∧ (type_of% @renL.eq_1) ∧ (type_of% @renL.eq_2) ∧ (type_of% @nbl.eq_1) ∧ (type_of% @nbl.eq_2) ∧ (type_of% @nbl.eq_3) ∧ (type_of% @nbl.eq_4) ∧ (type_of% @nbl.eq_5) ∧ (type_of% @nbl.eq_6) ∧ (type_of% @nbl.eq_7) ∧ (type_of% @nblL.eq_1) ∧ (type_of% @nblL.eq_2) :=
  ⟨@leT.eq_1, @leT.eq_2, @leH.eq_1, @leH.eq_2, @leR.eq_1, @leR.eq_2, @leR.eq_3, @leN.eq_1, @leN.eq_2, @lkR.eq_1, @lkR.eq_2, @ren.eq_1, @ren.eq_2, @ren.eq_3, @ren.eq_4, @ren.eq_5, @ren.eq_6, @ren.eq_7, @renL.eq_1, @renL.eq_2, @nbl.eq_1, @nbl.eq_2, @nbl.eq_3, @nbl.eq_4, @nbl.eq_5, @nbl.eq_6, @nbl.eq_7, @nblL.eq_1, @nblL.eq_2⟩
/-- Code. -/
theorem eW : (type_of% @wpcE) ∧ (type_of% @SeqE) ∧ (type_of% @BlkE) ∧ (type_of% @RndE) ∧ (type_of% @wopsE) ∧ (type_of% @RetE) ∧ (type_of% @RetXE) ∧ (type_of% @RetRE) :=
  ⟨@wpcE, @SeqE, @BlkE, @RndE, @wopsE, @RetE, @RetXE, @RetRE⟩
/-- Plain facts. -/
theorem eL : (∀ n : Nat, n ≤ n) ∧ (∀ {α β : Type} {f : α → β}, List.map f [] = []) ∧ (∀ {α : Type} (a : α), (a = a) = True) ∧ (∀ p : Prop, (p ∧ p) = p) ∧ (∀ {α : Type} (a b : α), cond true a b = a) ∧ (∀ {α : Type} (a b : α), cond false a b = b) ∧ (∀ p : Prop, (True ∧ p) = p) ∧ (∀ p : Prop, (p ∧ True) = p) ∧ (∀ n : Nat, n < n + 1) ∧ (0 < 1) ∧ (∀ n : Nat, 0 ≤ n) ∧ (∀ n : Nat, 0 + n = n) :=
  ⟨Nat.le_refl, List.map_nil, fun a => eq_self a, and_self, cond_true, cond_false, true_and, and_true, Nat.lt_add_one, Nat.zero_lt_one, Nat.zero_le, Nat.zero_add⟩
end Go.Av
end

section
/- Engine: what the evaluator unfolds, under fewer names still. -/
set_option linter.unusedVariables false
set_option autoImplicit false
set_option maxRecDepth 10000
namespace Go.Av
/-- What an operation makes. -/
theorem eV : (type_of% @bytB) ∧ (type_of% @boo.eq_1) ∧ (type_of% @boo.eq_2) ∧ (type_of% @boo.eq_3) ∧ (type_of% @boo.eq_4) ∧ (type_of% @isC.eq_1) ∧ (type_of% @isC.eq_2) ∧ (type_of% @convK.eq_1) ∧ (type_of% @fitsK.eq_1) ∧ (type_of% @fitsK.eq_2) ∧ (type_of% @fitsK.eq_3) ∧ (type_of% @fitsK.eq_4) ∧ (type_of% @fitsK.eq_5) ∧ (type_of% @fitsK.eq_6) ∧ (type_of% @fitsK.eq_7) ∧ (type_of% @fitsK.eq_8) ∧ (type_of% @fitsK.eq_9) ∧ (type_of% @fitsK.eq_10) ∧ (type_of% @fitsK.eq_11) ∧ (type_of% @fitsK.eq_12) ∧ (type_of% @fitsK.eq_13) ∧ (type_of% @fitsK.eq_14) ∧ (type_of% @inst.eq_1) ∧ (type_of% @inst.eq_2) ∧ (type_of% @instV.eq_1) ∧ (type_of% @instV.eq_2) ∧ (type_of% @instV.eq_3) ∧ (type_of% @stp.eq_1) ∧ (type_of% @stp.eq_2) ∧ (type_of% @stp.eq_3) ∧ (type_of% @stp.eq_4) ∧ (type_of% @stp.eq_5) ∧ (type_of% @stp.eq_6) ∧ (type_of% @stp.eq_7) ∧ (type_of% @stp.eq_8) ∧ (type_of% @stp.eq_9) ∧ (type_of% @stp.eq_10) ∧ (type_of% @stp.eq_11) ∧ (type_of% @stp.eq_12) ∧ (type_of% @stp.eq_13) ∧ (type_of% @stp.eq_14) ∧ (type_of% @stp.eq_15) ∧ (type_of% @stp.eq_16) ∧ (type_of% @stp.eq_17) ∧ (type_of% @stp.eq_18) ∧ (type_of% @stp.eq_19) ∧ (type_of% @stp.eq_20) ∧ (type_of% @stp.eq_21) ∧ (type_of% @stp.eq_22) ∧ (type_of% @stp.eq_23) ∧ (type_of% @stp.eq_24) ∧ (type_of% @stp.eq_25) ∧ (type_of% @stp.eq_26) ∧ (type_of% @bin.eq_1) ∧ (type_of% @bin.eq_2) ∧ (type_of% @bin.eq_3) ∧ (type_of% @bin.eq_4) ∧ (type_of% @bin.eq_5) ∧ (type_of% @bin.eq_6) ∧ (type_of% @bin.eq_7) ∧ (type_of% @bin.eq_8) ∧ (type_of% @bin.eq_9) ∧ (type_of% @bin.eq_10) ∧ (type_of% @bin.eq_11) ∧ (type_of% @bin.eq_12) ∧ (type_of% @bin.eq_13) ∧ (type_of% @bin.eq_14) ∧ (type_of% @bin.eq_15) ∧ (type_of% @bin.eq_16) ∧ (type_of% @bin.eq_17) ∧ (type_of% @bin.eq_18) ∧ (type_of% @binI.eq_1) ∧ (type_of% @binI.eq_2) ∧ (type_of% @binI.eq_3) ∧ (type_of% @binI.eq_4) ∧ (type_of% @binI.eq_5) ∧ (type_of% @binI.eq_6) ∧ (type_of% @binI.eq_7) ∧ (type_of% @binI.eq_8) ∧ (type_of% @binI.eq_9) ∧ (type_of% @binI.eq_10) ∧ (type_of% @binI.eq_11) ∧ (type_of% @binI.eq_12) ∧ (type_of% @binI.eq_13) ∧ (type_of% @binI.eq_14) ∧ (type_of% @binI.eq_15) ∧ (type_of% @binI.eq_16) ∧ (type_of% @binI.eq_17) ∧ (type_of% @numK.eq_1) ∧ (type_of% @numK.eq_2) ∧ (type_of% @St.ev.eq_1) ∧ (type_of% @St.ev.eq_2) ∧ (type_of% @St.ev.eq_3) ∧ (type_of% @St.ev.eq_4) ∧ (type_of% @St.put.eq_1) ∧ (type_of% @St.put.eq_2) ∧ (type_of% @setAll.eq_1) ∧ (type_of% @setRow.eq_1) ∧ (type_of% @srcW.eq_1) ∧ (type_of% @srcW.eq_2) ∧ (type_of% @srcW.eq_3) ∧ (type_of% @srcW.eq_4) ∧ (type_of% @bndW.eq_1) ∧ (type_of% @bndW.eq_2) ∧ (type_of% @bndW.eq_3) ∧ (type_of% @bndW.eq_4) ∧ (type_of% @setC.eq_1) ∧ (type_of% @pkR.eq_1) ∧ (type_of% @pkR.eq_2) ∧ (type_of% @List.headD.eq_1.{0}) ∧ (type_of% @List.headD.eq_2.{0}) ∧ (type_of% @AV.cells?.eq_1) ∧ (type_of% @AV.cells?.eq_2) ∧ (type_of% @AV.cells?.eq_3) ∧ (type_of% @AV.cells?.eq_4) ∧ (type_of% @AV.nb.eq_1) ∧ (type_of% @AV.nb.eq_2) ∧ (type_of% @AV.nb.eq_3) ∧ (type_of% @packT.eq_1) ∧ (type_of% @packT.eq_2) ∧ (type_of% @AV.one.eq_1) ∧ (type_of% @AV.one.eq_2) ∧ (type_of% @AV.one.eq_3) ∧ (type_of% @AV.one.eq_4) :=
  ⟨@bytB, @boo.eq_1, @boo.eq_2, @boo.eq_3, @boo.eq_4, @isC.eq_1, @isC.eq_2, @convK.eq_1, @fitsK.eq_1, @fitsK.eq_2, @fitsK.eq_3, @fitsK.eq_4, @fitsK.eq_5, @fitsK.eq_6, @fitsK.eq_7, @fitsK.eq_8, @fitsK.eq_9, @fitsK.eq_10, @fitsK.eq_11, @fitsK.eq_12, @fitsK.eq_13, @fitsK.eq_14, @inst.eq_1, @inst.eq_2, @instV.eq_1, @instV.eq_2, @instV.eq_3, @stp.eq_1, @stp.eq_2, @stp.eq_3, @stp.eq_4, @stp.eq_5, @stp.eq_6, @stp.eq_7, @stp.eq_8, @stp.eq_9, @stp.eq_10, @stp.eq_11, @stp.eq_12, @stp.eq_13, @stp.eq_14, @stp.eq_15, @stp.eq_16, @stp.eq_17, @stp.eq_18, @stp.eq_19, @stp.eq_20, @stp.eq_21, @stp.eq_22, @stp.eq_23, @stp.eq_24, @stp.eq_25, @stp.eq_26, @bin.eq_1, @bin.eq_2, @bin.eq_3, @bin.eq_4, @bin.eq_5, @bin.eq_6, @bin.eq_7, @bin.eq_8, @bin.eq_9, @bin.eq_10, @bin.eq_11, @bin.eq_12, @bin.eq_13, @bin.eq_14, @bin.eq_15, @bin.eq_16, @bin.eq_17, @bin.eq_18, @binI.eq_1, @binI.eq_2, @binI.eq_3, @binI.eq_4, @binI.eq_5, @binI.eq_6, @binI.eq_7, @binI.eq_8, @binI.eq_9, @binI.eq_10, @binI.eq_11, @binI.eq_12, @binI.eq_13, @binI.eq_14, @binI.eq_15, @binI.eq_16, @binI.eq_17, @numK.eq_1, @numK.eq_2, @St.ev.eq_1, @St.ev.eq_2, @St.ev.eq_3, @St.ev.eq_4, @St.put.eq_1, @St.put.eq_2, @setAll.eq_1, @setRow.eq_1, @srcW.eq_1, @srcW.eq_2, @srcW.eq_3, @srcW.eq_4, @bndW.eq_1, @bndW.eq_2, @bndW.eq_3, @bndW.eq_4, @setC.eq_1, @pkR.eq_1, @pkR.eq_2, @List.headD.eq_1.{0}, @List.headD.eq_2.{0}, @AV.cells?.eq_1, @AV.cells?.eq_2, @AV.cells?.eq_3, @AV.cells?.eq_4, @AV.nb.eq_1, @AV.nb.eq_2, @AV.nb.eq_3, @packT.eq_1, @packT.eq_2, @AV.one.eq_1, @AV.one.eq_2, @AV.one.eq_3, @AV.one.eq_4⟩
/-- What is lent. -/
theorem eD : (type_of% @leO.eq_1) ∧ (type_of% @gtm.eq_1) ∧ (type_of% @gtm.eq_2) ∧ (type_of% @geth.eq_1) ∧ (type_of% @geth.eq_2) ∧ (type_of% @remh.eq_1) ∧ (type_of% @remh.eq_2) ∧ (type_of% @sub.eq_1) ∧ (type_of% @sub.eq_2) ∧ (type_of% @sub.eq_3) ∧ (type_of% @sub.eq_4) ∧ (type_of% @sub.eq_5) ∧ (type_of% @sub.eq_6) ∧ (type_of% @sub.eq_7) ∧ (type_of% @sub.eq_8) ∧ (type_of% @sub.eq_9) ∧ (type_of% @sub.eq_10) ∧ (type_of% @sub.eq_11) ∧ (type_of% @sub.eq_12) ∧ (type_of% @sub.eq_13) ∧ (type_of% @sub.eq_14) ∧ (type_of% @sub.eq_15) ∧ (type_of% @subL.eq_1) ∧ (type_of% @subL.eq_2) ∧ (type_of% @subL.eq_3) ∧ (type_of% @fullR.eq_1) ∧ (type_of% @fullR.eq_2) ∧ (type_of% @keysR.eq_1) ∧ (type_of% @keysR.eq_2) ∧ (type_of% @ren.eq_1) ∧ (type_of% @ren.eq_2) ∧ (type_of% @ren.eq_3) ∧ (type_of% @ren.eq_4) ∧ (type_of% @ren.eq_5) ∧ (type_of% @ren.eq_6) ∧ (type_of% @ren.eq_7) ∧ (type_of% @renL.eq_1) ∧ (type_of% @renL.eq_2) ∧ (type_of% @nbl.eq_1) ∧ (type_of% @nbl.eq_2) ∧ (type_of% @nbl.eq_3) ∧ (type_of% @nbl.eq_4) ∧ (type_of% @nbl.eq_5) ∧ (type_of% @nbl.eq_6) ∧ (type_of% @nbl.eq_7) ∧ (type_of% @nblL.eq_1) ∧ (type_of% @nblL.eq_2) ∧ (type_of% @leH.eq_1) ∧ (type_of% @leH.eq_2) ∧ (type_of% @leR.eq_1) ∧ (type_of% @leR.eq_2) ∧ (type_of% @leR.eq_3) ∧ (type_of% @lkR.eq_1) ∧ (type_of% @lkR.eq_2) ∧ (type_of% @blwH.eq_1) ∧ (type_of% @blwH.eq_2) ∧ (type_of% @blwR.eq_1) ∧ (type_of% @blwR.eq_2) ∧ (type_of% @blwL.eq_1) ∧ (type_of% @blwL.eq_2) ∧ (type_of% @blw.eq_1) ∧ (type_of% @blw.eq_2) ∧ (type_of% @blw.eq_3) ∧ (type_of% @blw.eq_4) ∧ (type_of% @blw.eq_5) ∧ (type_of% @blw.eq_6) ∧ (type_of% @blw.eq_7) ∧ (type_of% @AV.pu.eq_1) ∧ (type_of% @AV.pu.eq_2) ∧ (type_of% @AV.pu.eq_3) ∧ (type_of% @AV.pu.eq_4) ∧ (type_of% @AV.pu.eq_5) ∧ (type_of% @AV.pu.eq_6) ∧ (type_of% @puL.eq_1) ∧ (type_of% @puL.eq_2) ∧ (type_of% @AV.nbV.eq_1) ∧ (type_of% @AV.nbV.eq_2) ∧ (type_of% @mapH.eq_1) ∧ (type_of% @mapH.eq_2) ∧ (type_of% @mapO.eq_1) ∧ (type_of% @mapNR.eq_1) ∧ (type_of% @mapNR.eq_2) ∧ (type_of% @mapNL.eq_1) ∧ (type_of% @mapNL.eq_2) ∧ (type_of% @mapN.eq_1) ∧ (type_of% @mapN.eq_2) ∧ (type_of% @mapN.eq_3) ∧ (type_of% @mapN.eq_4) ∧ (type_of% @mapN.eq_5) ∧ (type_of% @mapN.eq_6) ∧ (type_of% @mapN.eq_7) ∧ (type_of% @sg.eq_1) ∧ (type_of% @takeH.eq_1) ∧ (type_of% @takeH.eq_2) ∧ (∀ {α : Type} (a b : α), cond true a b = a) ∧ (∀ {α : Type} (a b : α), cond false a b = b) ∧ (∀ {α β : Type} {f : α → β}, List.map f [] = []) ∧ (∀ {α β : Type} {f : α → β} (a : α) (l : List α), List.map f (a :: l) = f a :: List.map f l) ∧ (∀ {α : Type} (l : List α), [] ++ l = l) ∧ (∀ {α : Type} (a : α) (l m : List α), (a :: l) ++ m = a :: (l ++ m)) :=
  ⟨@leO.eq_1, @gtm.eq_1, @gtm.eq_2, @geth.eq_1, @geth.eq_2, @remh.eq_1, @remh.eq_2, @sub.eq_1, @sub.eq_2, @sub.eq_3, @sub.eq_4, @sub.eq_5, @sub.eq_6, @sub.eq_7, @sub.eq_8, @sub.eq_9, @sub.eq_10, @sub.eq_11, @sub.eq_12, @sub.eq_13, @sub.eq_14, @sub.eq_15, @subL.eq_1, @subL.eq_2, @subL.eq_3, @fullR.eq_1, @fullR.eq_2, @keysR.eq_1, @keysR.eq_2, @ren.eq_1, @ren.eq_2, @ren.eq_3, @ren.eq_4, @ren.eq_5, @ren.eq_6, @ren.eq_7, @renL.eq_1, @renL.eq_2, @nbl.eq_1, @nbl.eq_2, @nbl.eq_3, @nbl.eq_4, @nbl.eq_5, @nbl.eq_6, @nbl.eq_7, @nblL.eq_1, @nblL.eq_2, @leH.eq_1, @leH.eq_2, @leR.eq_1, @leR.eq_2, @leR.eq_3, @lkR.eq_1, @lkR.eq_2, @blwH.eq_1, @blwH.eq_2, @blwR.eq_1, @blwR.eq_2, @blwL.eq_1, @blwL.eq_2, @blw.eq_1, @blw.eq_2, @blw.eq_3, @blw.eq_4, @blw.eq_5, @blw.eq_6, @blw.eq_7, @AV.pu.eq_1, @AV.pu.eq_2, @AV.pu.eq_3, @AV.pu.eq_4, @AV.pu.eq_5, @AV.pu.eq_6, @puL.eq_1, @puL.eq_2, @AV.nbV.eq_1, @AV.nbV.eq_2, @mapH.eq_1, @mapH.eq_2, @mapO.eq_1, @mapNR.eq_1, @mapNR.eq_2, @mapNL.eq_1, @mapNL.eq_2, @mapN.eq_1, @mapN.eq_2, @mapN.eq_3, @mapN.eq_4, @mapN.eq_5, @mapN.eq_6, @mapN.eq_7, @sg.eq_1, @takeH.eq_1, @takeH.eq_2, cond_true, cond_false, List.map_nil, fun a l => List.map_cons, List.nil_append, fun a l m => List.cons_append⟩
/-- Orders of operations. -/
theorem eT : (type_of% @wtrE) ∧ (type_of% @wthE) ∧ (type_of% @hstE) ∧ (type_of% @pstE) ∧ (type_of% @Pk.eq_1) ∧ (type_of% @gOp.eq_1) ∧ (type_of% @lenP.eq_1) ∧ (type_of% @lenP.eq_2) ∧ (∀ {α : Type} (a : α), (a = a) = True) ∧ (∀ {α : Type} (a : α) (l : List α), (a :: l)[0]? = some a) ∧ (∀ {α : Type} (a : α) (l : List α) (i : Nat), (a :: l)[i + 1]? = l[i]?) :=
  ⟨@wtrE, @wthE, @hstE, @pstE, @Pk.eq_1, @gOp.eq_1, @lenP.eq_1, @lenP.eq_2, fun a => eq_self a, fun a l => List.getElem?_cons_zero, fun a l i => List.getElem?_cons_succ⟩
/-- All of it. -/
theorem eA : (type_of% @eE) ∧ (type_of% @eF) ∧ (type_of% @eG) ∧ (type_of% @eW) ∧ (type_of% @eV) :=
  ⟨eE, eF, eG, eW, eV⟩
theorem RepA_pre {C : Cx} : ∀ (l t : List AV) (ad : Addr) (j : Nat), RepA C (l ++ t) ad j → RepA C l ad j
  | [], _, _, _, _ => by simp only [RepA]
  | c :: l, t, ad, j, h => by
    simp only [List.cons_append, RepA] at h ⊢
    exact ⟨h.1, RepA_pre l t ad (j + 1) h.2⟩
/-- A pointer to more than is asked for will do. -/
theorem Fun.rp1 {P : Program} [Known P] {f : FuncId} {cs l : List AV} {r : AV} (h : Fun P f (.rp cs :: l) r) (t : List AV) : Fun P f (.rp (cs ++ t) :: l) r :=
  ⟨h.en, fun B vs hn h1 h2 hr hh => h.call B vs hn h1 h2 (by
    simp only [RepL, Rep] at hr ⊢
    obtain ⟨v, vs', F1, F2, e, ⟨⟨ad, e3, ra⟩, z⟩, r2, e2⟩ := hr
    exact ⟨v, vs', F1, F2, e, ⟨⟨ad, e3, RepA_pre _ _ _ _ ra⟩, z⟩, r2, e2⟩) hh⟩
structure NxT (P : Program) [Known P] (ops : List Oper) (k : St → Prop) (t : List Nat) (d : Option Tmp) (s : St) (v : AV) : Prop where
  h : wtl P ops k t (s.put d v)
theorem NxT_eq {P : Program} [Known P] {ops : List Oper} {k : St → Prop} {t : List Nat} {d : Option Tmp} : NxT P ops k t d = fun s v => wtl P ops k t (s.put d v) := funext fun _ => funext fun _ => propext ⟨NxT.h, NxT.mk⟩
structure NxU (P : Program) [Known P] (ops : List Oper) (k : St → Prop) (t : List Nat) (o : Oper) (g : Bool) (s : St) : Prop where
  h : goL P o (wtl P ops k t) g s
theorem NxU_eq {P : Program} [Known P] {ops : List Oper} {k : St → Prop} {t : List Nat} {o : Oper} {g : Bool} {s : St} : NxU P ops k t o g s = goL P o (wtl P ops k t) g s := propext ⟨NxU.h, NxU.mk⟩
theorem wtlE {P : Program} [Known P] : (∀ ops k s, wtl P ops k [] s = k s) ∧
    (∀ ops k i t s, wtl P ops k (i :: t) s = match ops[i]? with
      | some o => gOp ops o s (fun g s => NxU P ops k t o g s)
      | none => False) ∧
    (∀ ops k t dst op ty pos after gu s, NxU P ops k t ⟨dst, op, ty, pos, after, gu⟩ true s = hstL P op s (NxT P ops k t dst s)) ∧
    (∀ ops k t dst op ty pos after gu s, NxU P ops k t ⟨dst, op, ty, pos, after, gu⟩ false s = wtl P ops k t (s.put dst (.tup []))) ∧
    (∀ ops k t d s v, NxT P ops k t d s v = wtl P ops k t (s.put d v)) :=
  ⟨fun _ _ _ => rfl, fun _ _ _ _ _ => by simp only [NxU_eq]; rfl, fun _ _ _ _ _ _ _ _ _ _ => by rw [NxU_eq, NxT_eq]; rfl, fun _ _ _ _ _ _ _ _ _ _ => by rw [NxU_eq]; rfl, fun _ _ _ _ _ _ => by rw [NxT_eq]⟩
theorem Fun.hcall {P : Program} [Known P] {hp : Hp} {f : FuncId} {args args' : List AV} {r : AV} {K : AV → Prop} (h : Fun P f args' r) (e : args.map AV.nbV = args') (np : npL args = true) (tp : r.top2 = true) (rn : r.np = true) (pu : r.pu = true) (k : K r) : HCall P hp f args K := .plain (Fun.pcall h e np tp rn pu k)
theorem Fun.hlent {P : Program} [Known P] {hp : Hp} {f : FuncId} {args args' : List AV} {r : AV} {K : AV → Prop} (h : Fun P f args' r) (e : (args.map (pur 4 hp)).map AV.nbV = args') (np : npL (args.map (pur 4 hp)) = true) (tp : r.top2 = true) (rn : r.np = true) (pu : r.pu = true) (na : r.na = true) (k : K r) : HCall P hp f args K := .lent r np tp rn pu na h.en (e ▸ h.call) k
/-- Plain facts of numbers and of truth. -/
theorem eM : (type_of% @Int.cast_ofNat_Int) ∧ (type_of% @true_and) ∧ (type_of% @and_true) ∧ (type_of% @Nat.lt_add_one) ∧ (type_of% @Nat.zero_lt_one) ∧ (type_of% @Nat.zero_le) ∧ (type_of% @Nat.zero_add) ∧ (type_of% @Nat.add_zero) ∧ (∀ {α : Type} (a : α), (a = a) = True) ∧ (type_of% @and_self) :=
  ⟨@Int.cast_ofNat_Int, @true_and, @and_true, @Nat.lt_add_one, @Nat.zero_lt_one, @Nat.zero_le, @Nat.zero_add, @Nat.add_zero, fun a => eq_self a, @and_self⟩
theorem eN : (type_of% @nneg) ∧ (∀ {α : Type} [BEq α] [ReflBEq α] (a : α), (a == a) = true) ∧ (type_of% @decide_true) ∧ (type_of% @decide_false) ∧ (type_of% @Int.cast_ofNat_Int) :=
  ⟨@nneg, fun a => beq_self_eq_true a, @decide_true, @decide_false, @Int.cast_ofNat_Int⟩
theorem eQ : (type_of% @decide_true) ∧ (type_of% @decide_false) ∧ (type_of% @Bool.true_or) ∧ (type_of% @Bool.or_true) ∧ (type_of% @Bool.false_or) ∧ (type_of% @Bool.or_false) ∧ (type_of% @Bool.not_true) ∧ (type_of% @Bool.not_false) ∧ (type_of% @Bool.true_and) ∧ (type_of% @Bool.and_true) ∧ (type_of% @Bool.false_and) ∧ (type_of% @Bool.and_false) ∧ (type_of% @Bool.and_self) ∧ (type_of% @Bool.or_self) ∧ (type_of% @Bool.not_not) :=
  ⟨@decide_true, @decide_false, @Bool.true_or, @Bool.or_true, @Bool.false_or, @Bool.or_false, @Bool.not_true, @Bool.not_false, @Bool.true_and, @Bool.and_true, @Bool.false_and, @Bool.and_false, @Bool.and_self, @Bool.or_self, @Bool.not_not⟩
end Go.Av
end

section
/- Engine: an object that is never written again is read from then on. -/
set_option linter.unusedVariables false
set_option linter.unusedSimpArgs false
set_option autoImplicit false
namespace Go.Av
variable {P : Program}
def frzV (o : Nat) (ob : Ob) : AV → AV
  | .cp o' i off => bif Nat.beq o' o then pur 4 [(o, ob)] (.cp o i off) else .cp o' i off
  | .os o' => bif Nat.beq o' o then pur 4 [(o, ob)] (.os o) else .os o'
  | v => v
def frzT (o : Nat) (ob : Ob) : List (Nat × AV) → List (Nat × AV)
  | [] => []
  | (t, v) :: l => (t, frzV o ob v) :: frzT o ob l
theorem gtm_frz (o : Nat) (ob : Ob) (t : Nat) : ∀ l : List (Nat × AV), gtm (frzT o ob l) t = frzV o ob (gtm l t)
  | [] => rfl
  | (u, v) :: l => by
    simp only [frzT, gtm]
    cases Nat.beq u t with
    | true => rfl
    | false => exact gtm_frz o ob t l
theorem Le.frz [Known P] {n : Nat} {s : St} (o : Nat) (ob : Ob) (h0 : n ≤ s.nx) (hg : geth s.hp o = some ob) : Le P n s ⟨frzT o ob s.tm, remh s.hp o, s.nx⟩ := by
  rintro B a w rfl ⟨mu, F, c⟩
  obtain ⟨G1, G2, m1, m2, m3⟩ := RepH.take _ F o ob c.hp hg
  have hx : Ext (cx B w mu F s.nx) (cx B w mu G2 s.nx) := ⟨fun b hb => ⟨hb.1, by have := m3 b; have := hb.2.1; show G2 b = 0; omega, hb.2.2⟩, fun _ _ => rfl, Nat.le_refl _, fun _ _ => rfl⟩
  refine ⟨mu, G2, c.defers, h0, c.mub, c.os, c.tape, c.output, c.size, c.old, fun b => ?_, fun b hb => c.blk b (by have := m3 b; have hb' : G2 b ≠ 0 := hb; omega), fun t => ?_, RepH.mono hx _ _ m2 (fun _ _ => rfl)⟩
  · have := c.one b; have := m3 b; omega
  · have ht := c.tm t
    show Rep _ (gtm (frzT o ob s.tm) t) _ _
    rw [gtm_frz]
    generalize gtm s.tm t = v at ht
    have key : Rep ⟨w, (cx B w mu G2 s.nx).ok, fun _ => default, 0⟩ (pur 4 [(o, ob)] v) (a.tmps.getD t undef) (fun _ => 0) := by
      refine pur_rep (C := cx B w mu F s.nx) (hp := [(o, ob)]) (F := G1) rfl (fun b hb => hx.ok b hb) ⟨G1, fun _ => 0, m1, fun _ => rfl, fun _ => rfl⟩ (fun b hb => ?_) 4 v _ _ ht (fun b hb => absurd rfl hb)
      have h1 := m3 b; have h2 := c.one b
      have h3 := c.blk b (by omega)
      exact ⟨h3.1, by show G2 b = 0; omega, .inr h3.2⟩
    have key2 : Rep (cx B w mu G2 s.nx) (pur 4 [(o, ob)] v) (a.tmps.getD t undef) (fun _ => 0) :=
      Rep.mono (C := ⟨w, (cx B w mu G2 s.nx).ok, fun _ => default, 0⟩) (C' := cx B w mu G2 s.nx) ⟨fun b hb => hb, fun b hb => rfl, Nat.zero_le _, fun o ho => absurd ho (Nat.not_lt_zero _)⟩ _ _ _ key (fun _ _ => rfl)
    have old : Rep (cx B w mu G2 s.nx) v (a.tmps.getD t undef) (fun _ => 0) := Rep.mono hx _ _ _ ht (fun _ _ => rfl)
    cases v with
    | cp o' i off =>
      simp only [frzV]
      cases hb : Nat.beq o' o with
      | true => obtain rfl := Nat.eq_of_beq_eq_true hb; exact key2
      | false => exact old
    | os o' =>
      simp only [frzV]
      cases hb : Nat.beq o' o with
      | true => obtain rfl := Nat.eq_of_beq_eq_true hb; exact key2
      | false => exact old
    | _ => exact old
theorem frzE : (∀ o ob, frzT o ob [] = []) ∧ (∀ o ob t v l, frzT o ob ((t, v) :: l) = (t, frzV o ob v) :: frzT o ob l) ∧
    (∀ o ob o' i off, frzV o ob (.cp o' i off) = bif Nat.beq o' o then pur 4 [(o, ob)] (.cp o i off) else .cp o' i off) ∧ (∀ o ob o', frzV o ob (.os o') = bif Nat.beq o' o then pur 4 [(o, ob)] (.os o) else .os o') ∧
    (∀ o ob k x, frzV o ob (.int k x) = .int k x) ∧ (∀ o ob, frzV o ob .tt = .tt) ∧ (∀ o ob, frzV o ob .ff = .ff) ∧ (∀ o ob x, frzV o ob (.bool x) = .bool x) ∧ (∀ o ob x, frzV o ob (.str x) = .str x) ∧ (∀ o ob x, frzV o ob (.agg x) = .agg x) ∧ (∀ o ob x, frzV o ob (.tup x) = .tup x) ∧
    (∀ o ob e x d, frzV o ob (.sl e x d) = .sl e x d) ∧ (∀ o ob e x d, frzV o ob (.own e x d) = .own e x d) ∧ (∀ o ob, frzV o ob .nils = .nils) ∧ (∀ o ob x, frzV o ob (.rp x) = .rp x) ∧ (∀ o ob, frzV o ob .nilp = .nilp) ∧ (∀ o ob f x, frzV o ob (.fn f x) = .fn f x) ∧ (∀ o ob, frzV o ob .nilfn = .nilfn) ∧ (∀ o ob t x, frzV o ob (.iface t x) = .iface t x) ∧ (∀ o ob, frzV o ob .nilif = .nilif) :=
  ⟨fun _ _ => rfl, fun _ _ _ _ _ => rfl, fun _ _ _ _ _ => rfl, fun _ _ _ => rfl, fun _ _ _ _ => rfl, fun _ _ => rfl, fun _ _ => rfl, fun _ _ _ => rfl, fun _ _ _ => rfl, fun _ _ _ => rfl, fun _ _ _ => rfl, fun _ _ _ _ _ => rfl, fun _ _ _ _ _ => rfl, fun _ _ => rfl, fun _ _ _ => rfl, fun _ _ => rfl, fun _ _ _ _ => rfl, fun _ _ => rfl, fun _ _ _ _ => rfl, fun _ _ => rfl⟩
theorem purE : (∀ n h k x, pur (n + 1) h (.int k x) = .int k x) ∧ (∀ n h, pur (n + 1) h .tt = .tt) ∧ (∀ n h, pur (n + 1) h .ff = .ff) ∧ (∀ n h b, pur (n + 1) h (.bool b) = .bool b) ∧ (∀ n h b, pur (n + 1) h (.str b) = .str b) ∧
    (∀ n h e x d, pur (n + 1) h (.sl e x d) = .sl e x d) ∧ (∀ n h e x d, pur (n + 1) h (.own e x d) = .sl e (rdR x) (rdL d)) ∧ (∀ n h, pur (n + 1) h .nils = .nils) ∧ (∀ n h x, pur (n + 1) h (.rp x) = .rp x) ∧ (∀ n h, pur (n + 1) h .nilp = .nilp) ∧ (∀ n h, pur (n + 1) h .nilfn = .nilfn) ∧ (∀ n h, pur (n + 1) h .nilif = .nilif) :=
  ⟨fun _ _ _ _ => rfl, fun _ _ => rfl, fun _ _ => rfl, fun _ _ _ => rfl, fun _ _ _ => rfl, fun _ _ _ _ _ => rfl, fun _ _ _ _ _ => rfl, fun _ _ => rfl, fun _ _ _ => rfl, fun _ _ => rfl, fun _ _ => rfl, fun _ _ => rfl⟩
theorem blt01 : Nat.blt 0 1 = true := rfl
end Go.Av
end
