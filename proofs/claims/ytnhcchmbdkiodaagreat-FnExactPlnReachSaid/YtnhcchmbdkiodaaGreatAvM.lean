/- Engine, part 13: results; a function's promise out of its code. -/
import Derived.Test.YtnhcchmbdkiodaaGreatAvR
set_option linter.unusedVariables false
set_option linter.unusedSimpArgs false
set_option autoImplicit false
namespace Go.Av
variable {P : Program}

/-- The results, the slices of one's own in them taken out of the state. -/
def resW (P : Program) [Known P] : List ResultVar → List (Nat × AV) → Hp → (List AV → Hp → Prop) → Prop
  | [], _, h, K => K [] h
  | .tmp t :: l, tm, h, K => match gtm tm t with
    | .agg x => resW P l tm (absC h (x.map AV.nb)).2 (fun vs h' => K (.agg (absC h (x.map AV.nb)).1 :: vs) h')
    | x => resW P l tm (absC h [x.nb]).2 (fun vs h' => K ((absC h [x.nb]).1.headD .dead :: vs) h')
  | .cell t ty :: l, tm, h, K => match tyT P ty, gtm tm t with
    | some (g, n), .cp o 0 0 => match geth h o with
      | some ⟨e, [row], _, true⟩ => e = n ∧ 0 < n ∧ (g || Nat.beq n 1) = true ∧ resW P l tm (absC (remh h o) row).2 (fun vs h' => K (packT g (absC (remh h o) row).1 :: vs) h')
      | _ => False
    | _, _ => False
def resRun (P : Program) [Known P] (tmps : Array Value) : ResultVar → Sem Value
  | .tmp t => pure (tmps.getD t undef)
  | .cell a t => do loadVar t (← asAddr (tmps.getD a undef))

theorem packT_rep' {C : Cx} {g : Bool} {l : List AV} {us : List Value} {F : Foot} (h : RepL C l us F) (hn : 0 < l.length) (hg : g = false → l.length = 1) : Rep C (packT g l) (if g then .agg us.toArray else us.headD undef) F := by
  cases g with
  | true => exact ⟨us, rfl, h⟩
  | false =>
    cases l with
    | nil => simp at hn
    | cons x l =>
      have := hg rfl
      cases l with
      | nil =>
        obtain ⟨v, vs', F1, F2, rfl, h1, ⟨_, h2⟩, h3⟩ := h
        exact h1.foot (fun b => by have := h3 b; have := h2 b; omega)
      | cons y l => simp at this
theorem resW_sound [Known P] {C : Cx} {tm : List (Nat × AV)} {tmps : Array Value} (htm : ∀ t, Rep C (gtm tm t) (tmps.getD t undef) (fun _ => 0)) :
    ∀ (l : List ResultVar) (h : Hp) (F : Foot) (K : List AV → Hp → Prop), RepH C h F → resW P l tm h K →
      ∃ vs h' us Fr Fh, K vs h' ∧ (l.mapM (resRun P tmps)).run P C.w = .ok us C.w ∧ RepL C vs us Fr ∧ RepH C h' Fh ∧ ∀ b, Fr b + Fh b ≤ F b
  | [], h, F, K, hh, hk => ⟨[], h, [], fun _ => 0, F, hk, by simp, ⟨rfl, fun _ => rfl⟩, hh, fun b => by simp⟩
  | .tmp t :: l, h, F, K, hh, hk => by
    have ht := htm t
    simp only [resW] at hk
    split at hk
    · rename_i x hx
      rw [hx] at ht
      obtain ⟨cs, hv, hL⟩ := ht
      obtain ⟨F1, F2, k1, k2, k3⟩ := absC_sound (x.map AV.nb) h F cs (nbL_rep _ _ _ hL) hh
      obtain ⟨vs, h', us, Fr, Fh, m1, m2, m3, m4, m5⟩ := resW_sound htm l _ F2 _ k2 hk
      exact ⟨_, h', .agg cs.toArray :: us, fun b => F1 b + Fr b, Fh, m1, by simp [List.mapM_cons, resRun, hv, m2], ⟨_, _, F1, Fr, rfl, ⟨cs, rfl, k1⟩, m3, fun _ => rfl⟩, m4, fun b => by have := k3 b; have := m5 b; simp; omega⟩
    · rename_i hx
      have hL : RepL C [(gtm tm t).nb] [tmps.getD t undef] (fun _ => 0) := ⟨_, _, _, _, rfl, nb_rep ht, ⟨rfl, fun _ => rfl⟩, fun _ => rfl⟩
      obtain ⟨F1, F2, k1, k2, k3⟩ := absC_sound _ h F _ hL hh
      obtain ⟨vs, h', us, Fr, Fh, m1, m2, m3, m4, m5⟩ := resW_sound htm l _ F2 _ k2 hk
      have hlen := absC_length [(gtm tm t).nb] h
      have k1' : Rep C ((absC h [(gtm tm t).nb]).1.headD .dead) (tmps.getD t undef) F1 := by
        generalize (absC h [(gtm tm t).nb]).1 = q at *
        cases q with
        | nil => simp at hlen
        | cons y q =>
          cases q with
          | nil =>
            obtain ⟨v, vs', G1, G2, e, g1, ⟨_, g2⟩, g3⟩ := k1
            obtain ⟨rfl, rfl⟩ : tmps.getD t undef = v ∧ [] = vs' := by simpa using e
            exact g1.foot (fun b => by have := g3 b; have := g2 b; omega)
          | cons z q => simp at hlen
      exact ⟨_, h', tmps.getD t undef :: us, fun b => F1 b + Fr b, Fh, m1, by simp [List.mapM_cons, resRun, m2], ⟨_, _, F1, Fr, rfl, k1', m3, fun _ => rfl⟩, m4, fun b => by have := k3 b; have := m5 b; simp; omega⟩
  | .cell t ty :: l, h, F, K, hh, hk => by
    have ht := htm t
    simp only [resW] at hk
    split at hk
    · rename_i g n o hty hx
      split at hk
      · rename_i e row d hob
        obtain ⟨he, hn, hg1, hk⟩ := hk
        subst he
        rw [hx] at ht
        obtain ⟨_, ⟨b, hb, hv⟩, _⟩ := ht
        obtain ⟨G1, G2, m1, m2, m3⟩ := RepH.take h F o _ hh hob
        obtain ⟨b', cc, tt, FR, q1, q2, q3, q4, q5, q6, q7, q8, q9⟩ := m1.rows (by simp)
        obtain rfl : b = b' := Option.some.inj (hb.symm.trans q1)
        obtain ⟨H1, H2, r1, r2, _, r4⟩ := q8
        obtain ⟨vs1, k1, k2, k3, _⟩ := RepB.to_list _ _ _ r2
        obtain ⟨A1, A2, a1, a2, a3⟩ := absC_sound' row (remh h o) H1 G2 vs1 k1 m2
        obtain ⟨vs, h', us, Fr, Fh, p1, p2, p3, p4, p5⟩ := resW_sound htm l _ A2 _ a2 hk
        have hl : vs1.length = e := by rw [k2, r1]
        have hrun := loadVar_run (P := P) hty (w := C.w) (ad := ⟨b, 0, none⟩) (us := vs1) hl hn (fun i u hi => by
          rw [add_none, cell_heap q6]; exact k3 i u hi)
        refine ⟨_, h', (if g then .agg vs1.toArray else vs1.headD undef) :: us, fun x => A1 x + Fr x, Fh, p1, ?_, ⟨_, _, A1, Fr, rfl, ?_, p3, fun _ => rfl⟩, p4, fun x => ?_⟩
        · rw [List.mapM_cons]
          simp only [Nat.zero_mul, Nat.add_zero] at hv
          simp only [resRun, hv, asAddr, Sem.run_bind, Sem.run_pure, Result.andThen_ok, hrun, p2]
        · have hlen : (absC (remh h o) row).1.length = e := by rw [absC_length, r1]
          exact packT_rep' a1 (by omega) (fun hg => by rw [hg] at hg1; rw [hlen]; exact Nat.eq_of_beq_eq_true (by simpa using hg1))
        · have h1 := m3 x; have h2 := q9 x; have h3 := r4 x; have h4 := a3 x; have h5 := p5 x
          simp; omega
      · exact hk.elim
    · exact hk.elim

/-- No list of an argument is too long. -/
def limA : AV → Prop
  | .sl _ rows _ => rows.length ≤ lim
  | .str b => b.size ≤ lim
  | .int k n => k.wrap n = n
  | _ => True
def limL : List AV → Prop
  | [] => True
  | .agg l :: r => (∀ x ∈ l, limA x) ∧ limL r
  | x :: r => limA x ∧ limL r
theorem limA_of {C : Cx} : ∀ (x : AV) (v : Value) (F : Foot), Rep C x v F → limA x := by
  intro x v F h
  cases x <;> first | trivial | skip
  · exact h.2.1
  · exact h.2.1
  · obtain ⟨⟨_, _, _, _, h, _⟩, _⟩ := h; exact h
theorem limA_ofL {C : Cx} : ∀ (l : List AV) (vs : List Value) (F : Foot), RepL C l vs F → ∀ x ∈ l, limA x
  | [], vs, F, h, x, hx => by simp at hx
  | y :: l, vs, F, h, x, hx => by
    obtain ⟨v, us, F1, F2, e, h1, h2, h3⟩ := h
    rcases List.mem_cons.1 hx with rfl | hx
    · exact limA_of _ _ _ h1
    · exact limA_ofL l us F2 h2 x hx
theorem limL_of {C : Cx} : ∀ (l : List AV) (vs : List Value) (F : Foot), RepL C l vs F → limL l
  | [], vs, F, h => trivial
  | x :: l, vs, F, h => by
    obtain ⟨v, us, F1, F2, e, h1, h2, h3⟩ := h
    have hl := limL_of l us F2 h2
    cases x with
    | agg l' =>
      obtain ⟨cs, _, k⟩ := h1
      exact ⟨limA_ofL l' cs F1 k, hl⟩
    | _ => exact ⟨limA_of _ _ _ h1, hl⟩
def pkR : List AV → AV
  | [x] => x
  | l => .tup l
/-- The objects that are handed back. -/
def selH : Hp → Hp → Prop
  | _, [] => True
  | h, (o, ob) :: l => geth h o = some ob ∧ selH (remh h o) l
theorem selH_sound {C : Cx} : ∀ (l : Hp) (h : Hp) (F : Foot), RepH C h F → selH h l → ∃ F', RepH C l F' ∧ ∀ b, F' b ≤ F b
  | [], h, F, hh, hs => ⟨fun _ => 0, fun _ => rfl, fun b => Nat.zero_le _⟩
  | (o, ob) :: l, h, F, hh, hs => by
    obtain ⟨G1, G2, m1, m2, m3⟩ := RepH.take h F o ob hh hs.1
    obtain ⟨F', k1, k2⟩ := selH_sound l _ G2 m2 hs.2
    exact ⟨fun b => G1 b + F' b, ⟨G1, F', m1, k1, fun _ => rfl⟩, fun b => by have := m3 b; have := k2 b; simp; omega⟩
def argTm : Nat → List AV → List (Nat × AV)
  | _, [] => []
  | n, a :: l => (n, a) :: argTm (n + 1) l
theorem argTm_rep {C : Cx} : ∀ (l : List AV) (n : Nat) (vs : List Value) (tmps : Array Value), RepL C l vs (fun _ => 0) → (∀ i v, vs[i]? = some v → tmps.getD (n + i) undef = v) →
    ∀ t, Rep C (gtm (argTm n l) t) (tmps.getD t undef) (fun _ => 0)
  | [], n, vs, tmps, h, ht, t => fun _ => rfl
  | x :: l, n, vs, tmps, h, ht, t => by
    obtain ⟨v, us, F1, F2, rfl, h1, h2, h3⟩ := h
    obtain ⟨rfl, rfl⟩ := zero_split h3
    simp only [argTm, gtm]
    cases hb : Nat.beq n t with
    | true =>
      obtain rfl := Nat.eq_of_beq_eq_true hb
      have := ht 0 v rfl
      rw [Nat.add_zero] at this
      rw [this]; exact h1
    | false =>
      exact argTm_rep l (n + 1) us tmps h2 (fun i u hi => by have := ht (i + 1) u (by simpa using hi); rwa [show n + 1 + i = n + (i + 1) by omega]) t
/-- What a function's end must give. -/
def RetX (P : Program) [Known P] (rs : List ResultVar) (Q : AV → Hp → Prop) (e : Exit) (s : St) : Prop := match e with
  | .normal => resW P rs s.tm s.hp (fun vs h => ∃ r hout, Q r hout ∧ sub (pkR vs) r ∧ selH h hout)
  | .ret => resW P rs s.tm s.hp (fun vs h => ∃ r hout, Q r hout ∧ sub (pkR vs) r ∧ selH h hout)
  | _ => False
def RetW (P : Program) [Known P] (rs : List ResultVar) (r : AV) (hout : Hp) (e : Exit) (s : St) : Prop := match e with
  | .normal => resW P rs s.tm s.hp (fun vs h => sub (pkR vs) r ∧ selH h hout)
  | .ret => resW P rs s.tm s.hp (fun vs h => sub (pkR vs) r ∧ selH h hout)
  | _ => False
theorem RetW_eq [Known P] {rs : List ResultVar} {r : AV} {hout : Hp} : RetW P rs r hout = RetX P rs (fun r' h' => r' = r ∧ h' = hout) := by
  have e : (fun (vs : List AV) (h : Hp) => sub (pkR vs) r ∧ selH h hout) = fun vs h => ∃ r' h', (r' = r ∧ h' = hout) ∧ sub (pkR vs) r' ∧ selH h h' := by
    funext vs h
    exact propext ⟨fun q => ⟨r, hout, ⟨rfl, rfl⟩, q⟩, fun ⟨r', h', ⟨e1, e2⟩, q⟩ => by subst e1; subst e2; exact q⟩
  funext e' s
  cases e' <;> simp only [RetW, RetX, e]
theorem resRun_eq [Known P] {tmps : Array Value} {w : World} {l : List ResultVar} {us : List Value} (h : (l.mapM (resRun P tmps)).run P w = .ok us w) (f : ResultVar → Sem Value) (h1 : ∀ u, f (.tmp u) = pure (tmps.getD u undef)) (h2 : ∀ a t, f (.cell a t) = (do loadVar t (← asAddr (tmps.getD a undef)))) : (l.mapM f).run P w = .ok us w := by
  have : f = resRun P tmps := by
    funext x; cases x with
    | tmp u => exact h1 u
    | cell a t => exact h2 a t
  rw [this]; exact h
theorem results_run [Known P] {fn : Func} {tmps : Array Value} {w : World} {us : List Value} (h : (fn.results.toList.mapM (resRun P tmps)).run P w = .ok us w) : (results fn tmps).run P w = .ok (if h : us.length = 1 then us[0] else .tuple us.toArray) w := by
  unfold results
  rw [show fn.results = fn.results.toList.toArray by simp, List.mapM_toArray]
  simp only [Sem.run_bind, Sem.run_map]
  rw [resRun_eq h]
  · simp
  · intro u; rfl
  · intro a t; rfl
theorem pkR_rep {C : Cx} {vs : List AV} {us : List Value} {F : Foot} (h : RepL C vs us F) : Rep C (pkR vs) (if h : us.length = 1 then us[0] else .tuple us.toArray) F := by
  have hl := RepL.length _ _ _ h
  match vs, h with
  | [], h => obtain ⟨rfl, hz⟩ := h; exact ⟨[], rfl, rfl, hz⟩
  | [x], h =>
    obtain ⟨v, us', F1, F2, rfl, h1, ⟨rfl, h2⟩, h3⟩ := h
    exact h1.foot (fun b => by have := h3 b; have := h2 b; omega)
  | x :: y :: l, h =>
    rw [dif_neg (by rw [hl]; simp)]
    exact ⟨us, rfl, h⟩
theorem callX_of [Known P] {f : FuncId} {fn : Func} {n : Nat} {args : List AV} {hin : Hp} {Q : AV → Hp → Prop} (hf : P.funcs[f]? = some fn) (hb : fn.body.isSome = true) (hfit : fitC fn.ntmps (fn.body.getD .skip) = true) (ha : Nat.ble args.length fn.ntmps = true)
    (h : limL args → wpc P n (fn.body.getD .skip) (RetX P fn.results.toList Q) ⟨argTm 0 args, hin, n⟩) : CallX P f n args hin Q := by
  intro B vs hn h1 h2 hargs hhin
  subst hn
  obtain ⟨c, hc⟩ := Option.isSome_iff_exists.1 hb
  rw [hc, Option.getD_some] at h hfit
  replace h := h (limL_of _ _ _ hargs)
  have hlen : vs.length = args.length := RepL.length _ _ _ hargs
  have ha' := Nat.le_of_ble_eq_true ha
  refine calls_of_wp hf hc (wp_mono (wpc_sound (B := B) (n := fn.ntmps) c _ ⟨argTm 0 args, hin, B.n⟩ _ B.w hfit ?_ ?_ h) ?_)
  · simp; omega
  · refine ⟨B.mu, B.F, rfl, Nat.le_refl _, fun _ _ => rfl, rfl, rfl, rfl, Nat.le_refl _, fun _ _ _ => rfl, h1, fun b hb => ⟨h2 b hb, .inr hb⟩, argTm_rep _ 0 vs _ hargs (fun i v hi => ?_), hhin⟩
    have hi' := (List.getElem?_eq_some_iff.1 hi).1
    simp only [Nat.zero_add, Array.getD, Array.size_append, List.size_toArray]
    rw [dif_pos (by omega)]
    have : (vs.toArray ++ Array.replicate (fn.ntmps - vs.toArray.size) undef)[i]? = some v := by
      rw [Array.getElem?_append_left (by simpa using hi')]; simpa using hi
    rw [Array.getElem?_eq_getElem (by simp; omega)] at this
    exact Option.some.inj this
  · rintro e a w ⟨hs, s, ⟨mu, F, core⟩, hq⟩
    have main : resW P fn.results.toList s.tm s.hp (fun vs h => ∃ r hout, Q r hout ∧ sub (pkR vs) r ∧ selH h hout) → a.defers = [] ∧ ∃ v, (results fn a.tmps).run P w = .ok v w ∧ ∃ (r : AV) (hout : Hp), Q r hout ∧ ∃ (v' : Value) (mu' : Nat → Hdr) (n' : Nat) (F' Fr Fh : Foot), Ending.returned v = .returned v' ∧ B.n ≤ n' ∧ (∀ o, o < B.n → mu' o = B.mu o) ∧ Fin B w F' ∧
        (∀ b, F' b = Fr b + Fh b) ∧ Rep (cx B w mu' F' n') r v' Fr ∧ RepH (cx B w mu' F' n') hout Fh := fun hq => by
      obtain ⟨vs', h', us, Fr, Fh, ⟨r, hout, hQ, hsub, hsel⟩, hrun, hL, hH, hle⟩ := resW_sound core.tm _ _ _ _ core.hp hq
      obtain ⟨Fo, k1, k2⟩ := selH_sound _ _ _ hH hsel
      refine ⟨core.defers, _, results_run hrun, r, hout, hQ, _, mu, s.nx, fun b => Fr b + Fo b, Fr, Fo, rfl, core.nx, core.mub, ?_, fun _ => rfl, ?_, ?_⟩
      · refine ⟨core.os, core.tape, core.output, core.size, core.old, fun b => ?_, fun b hb => core.blk b ?_⟩
        · have := hle b; have := k2 b; have := core.one b; show Fr b + Fo b ≤ 1; omega
        · have := hle b; have := k2 b; have hb' : Fr b + Fo b ≠ 0 := hb; omega
      all_goals
        have hx : Ext (cx B w mu F s.nx) (cx B w mu (fun b => Fr b + Fo b) s.nx) := ⟨fun b hb => ⟨hb.1, by have := hle b; have := k2 b; have := hb.2.1; show Fr b + Fo b = 0; omega, hb.2.2⟩, fun _ _ => rfl, Nat.le_refl _, fun _ _ => rfl⟩
      · exact (sub_rep _ _ _ _ (pkR_rep hL) hsub).mono hx _ _ _ (fun _ _ => rfl)
      · exact RepH.mono hx _ _ k1 (fun _ _ => rfl)
    cases e with
    | normal => exact main hq
    | ret => exact main hq
    | _ => exact hq.elim
theorem callM_of [Known P] {f : FuncId} {fn : Func} {n : Nat} {args : List AV} {hin : Hp} {r : AV} {hout : Hp} (hf : P.funcs[f]? = some fn) (hb : fn.body.isSome = true) (hfit : fitC fn.ntmps (fn.body.getD .skip) = true) (ha : Nat.ble args.length fn.ntmps = true)
    (h : limL args → wpc P n (fn.body.getD .skip) (RetW P fn.results.toList r hout) ⟨argTm 0 args, hin, n⟩) : CallM P f n args hin r hout :=
  callX_of hf hb hfit ha fun hl => RetW_eq (P := P) ▸ h hl
/-! ### Results that may name objects of the state -/
def resR (P : Program) [Known P] : List ResultVar → List (Nat × AV) → Hp → (List AV → Prop) → Prop
  | [], _, _, K => K []
  | .tmp t :: l, tm, h, K => resR P l tm h (fun vs => K (gtm tm t :: vs))
  | .cell t ty :: l, tm, h, K => match tyT P ty, gtm tm t with
    | some (g, n), .cp o 0 0 => match geth h o with
      | some ⟨e, [row], _, true⟩ => e = n ∧ 0 < n ∧ (g || Nat.beq n 1) = true ∧ puL row = true ∧ resR P l tm h (fun vs => K (packT g row :: vs))
      | _ => False
    | _, _ => False
theorem resR_sound [Known P] {C : Cx} {tm : List (Nat × AV)} {tmps : Array Value} (htm : ∀ t, Rep C (gtm tm t) (tmps.getD t undef) (fun _ => 0)) {h : Hp} {F : Foot} (hh : RepH C h F) :
    ∀ (l : List ResultVar) (K : List AV → Prop), resR P l tm h K → ∃ vs us, K vs ∧ (l.mapM (resRun P tmps)).run P C.w = .ok us C.w ∧ RepL C vs us (fun _ => 0)
  | [], K, hk => ⟨[], [], hk, by simp, ⟨rfl, fun _ => rfl⟩⟩
  | .tmp t :: l, K, hk => by
    obtain ⟨vs, us, m1, m2, m3⟩ := resR_sound htm hh l _ hk
    exact ⟨_, tmps.getD t undef :: us, m1, by simp [List.mapM_cons, resRun, m2], ⟨_, _, _, _, rfl, htm t, m3, fun _ => rfl⟩⟩
  | .cell t ty :: l, K, hk => by
    have ht := htm t
    simp only [resR] at hk
    split at hk
    · rename_i g n o hty hx
      split at hk
      · rename_i e row d hob
        obtain ⟨he, hn, hg1, hpu, hk⟩ := hk
        subst he
        rw [hx] at ht
        obtain ⟨_, ⟨b, hb, hv⟩, _⟩ := ht
        obtain ⟨G1, G2, m1, m2, m3⟩ := RepH.take h F o _ hh hob
        obtain ⟨b', cc, tt, FR, q1, q2, q3, q4, q5, q6, q7, q8, q9⟩ := m1.rows (by simp)
        obtain rfl : b = b' := Option.some.inj (hb.symm.trans q1)
        obtain ⟨H1, H2, r1, r2, _, r4⟩ := q8
        obtain ⟨vs1, k1, k2, k3, _⟩ := RepB.to_list _ _ _ r2
        have hz := puL_zero row vs1 H1 k1 hpu
        obtain rfl : H1 = fun _ => 0 := funext hz
        obtain ⟨vs, us, p1, p2, p3⟩ := resR_sound htm hh l _ hk
        have hl : vs1.length = e := by rw [k2, r1]
        have hrun := loadVar_run (P := P) hty (w := C.w) (ad := ⟨b, 0, none⟩) (us := vs1) hl hn (fun i u hi => by
          rw [add_none, cell_heap q6]; exact k3 i u hi)
        refine ⟨_, (if g then .agg vs1.toArray else vs1.headD undef) :: us, p1, ?_, ⟨_, _, _, _, rfl, ?_, p3, fun _ => rfl⟩⟩
        · rw [List.mapM_cons]
          simp only [Nat.zero_mul, Nat.add_zero] at hv
          simp only [resRun, hv, asAddr, Sem.run_bind, Sem.run_pure, Result.andThen_ok, hrun, p2]
        · exact packT_rep' k1 (by omega) (fun hg => by rw [hg] at hg1; rw [r1]; exact Nat.eq_of_beq_eq_true (by simpa using hg1))
      · exact hk.elim
    · exact hk.elim
def RetR (P : Program) [Known P] (rs : List ResultVar) (Q : AV → Hp → Prop) (e : Exit) (s : St) : Prop := match e with
  | .normal => resR P rs s.tm s.hp (fun vs => ∃ r hout, Q r hout ∧ sub (pkR vs) r ∧ selH s.hp hout)
  | .ret => resR P rs s.tm s.hp (fun vs => ∃ r hout, Q r hout ∧ sub (pkR vs) r ∧ selH s.hp hout)
  | _ => False
theorem callR_of [Known P] {f : FuncId} {fn : Func} {n : Nat} {args : List AV} {hin : Hp} {Q : AV → Hp → Prop} (hf : P.funcs[f]? = some fn) (hb : fn.body.isSome = true) (hfit : fitC fn.ntmps (fn.body.getD .skip) = true) (ha : Nat.ble args.length fn.ntmps = true)
    (h : limL args → wpc P n (fn.body.getD .skip) (RetR P fn.results.toList Q) ⟨argTm 0 args, hin, n⟩) : CallX P f n args hin Q := by
  intro B vs hn h1 h2 hargs hhin
  subst hn
  obtain ⟨c, hc⟩ := Option.isSome_iff_exists.1 hb
  rw [hc, Option.getD_some] at h hfit
  replace h := h (limL_of _ _ _ hargs)
  have hlen : vs.length = args.length := RepL.length _ _ _ hargs
  have ha' := Nat.le_of_ble_eq_true ha
  refine calls_of_wp hf hc (wp_mono (wpc_sound (B := B) (n := fn.ntmps) c _ ⟨argTm 0 args, hin, B.n⟩ _ B.w hfit ?_ ?_ h) ?_)
  · simp; omega
  · refine ⟨B.mu, B.F, rfl, Nat.le_refl _, fun _ _ => rfl, rfl, rfl, rfl, Nat.le_refl _, fun _ _ _ => rfl, h1, fun b hb => ⟨h2 b hb, .inr hb⟩, argTm_rep _ 0 vs _ hargs (fun i v hi => ?_), hhin⟩
    have hi' := (List.getElem?_eq_some_iff.1 hi).1
    simp only [Nat.zero_add, Array.getD, Array.size_append, List.size_toArray]
    rw [dif_pos (by omega)]
    have : (vs.toArray ++ Array.replicate (fn.ntmps - vs.toArray.size) undef)[i]? = some v := by
      rw [Array.getElem?_append_left (by simpa using hi')]; simpa using hi
    rw [Array.getElem?_eq_getElem (by simp; omega)] at this
    exact Option.some.inj this
  · rintro e a w ⟨hs, s, ⟨mu, F, core⟩, hq⟩
    have main : resR P fn.results.toList s.tm s.hp (fun vs => ∃ r hout, Q r hout ∧ sub (pkR vs) r ∧ selH s.hp hout) → a.defers = [] ∧ ∃ v, (results fn a.tmps).run P w = .ok v w ∧ ∃ (r : AV) (hout : Hp), Q r hout ∧ ∃ (v' : Value) (mu' : Nat → Hdr) (n' : Nat) (F' Fr Fh : Foot), Ending.returned v = .returned v' ∧ B.n ≤ n' ∧ (∀ o, o < B.n → mu' o = B.mu o) ∧ Fin B w F' ∧
        (∀ b, F' b = Fr b + Fh b) ∧ Rep (cx B w mu' F' n') r v' Fr ∧ RepH (cx B w mu' F' n') hout Fh := fun hq => by
      obtain ⟨vs', us, ⟨r, hout, hQ, hsub, hsel⟩, hrun, hL⟩ := resR_sound core.tm core.hp _ _ hq
      obtain ⟨Fo, k1, k2⟩ := selH_sound _ _ _ core.hp hsel
      refine ⟨core.defers, _, results_run hrun, r, hout, hQ, _, mu, s.nx, Fo, fun _ => 0, Fo, rfl, core.nx, core.mub, ?_, fun b => by simp, ?_, ?_⟩
      · refine ⟨core.os, core.tape, core.output, core.size, core.old, fun b => ?_, fun b hb => core.blk b ?_⟩
        · have := k2 b; have := core.one b; omega
        · have := k2 b; have hb' : Fo b ≠ 0 := hb; omega
      all_goals
        have hx : Ext (cx B w mu F s.nx) (cx B w mu Fo s.nx) := ⟨fun b hb => ⟨hb.1, by have := k2 b; have := hb.2.1; show Fo b = 0; omega, hb.2.2⟩, fun _ _ => rfl, Nat.le_refl _, fun _ _ => rfl⟩
      · exact (sub_rep _ _ _ _ (pkR_rep hL) hsub).mono hx _ _ _ (fun _ _ => rfl)
      · exact RepH.mono hx _ _ k1 (fun _ _ => rfl)
    cases e with
    | normal => exact main hq
    | ret => exact main hq
    | _ => exact hq.elim
end Go.Av
