/- Engine: results under other names. -/
import Derived.Test.YtnhcchmbdkiodaaGreatAvZ
set_option linter.unusedVariables false
set_option autoImplicit false
namespace Go.Av
variable {P : Program}
theorem FunX.ren [Known P] {f : FuncId} {n : Nat} {args : List AV} {hin : Hp} {Q Q' : AV → Hp → Prop} (h : FunX P f n args hin Q)
    (k : ∀ r hout, Q r hout → ∃ (ρ : Ren) (N : Nat) (r' : AV) (hout' : Hp), n ≤ N ∧ leN n ρ ∧ nbl ρ N r' ∧ sub r (ren ρ r') ∧ leH ρ N hout hout' ∧ Q' r' hout') : FunX P f n args hin Q' := by
  refine ⟨h.en, fun B vs hBn hF hFb hargs hh => ?_⟩
  refine (h.call B vs hBn hF hFb hargs hh).mono fun e w' ⟨r, hout, hQ, v, mu', n', F', Fr, Fh, he, hn, hmu, hfin, hsum, hr, ho⟩ => ?_
  obtain ⟨ρ, N, r', hout', hN, hρ, hb, hs, hl, hQ'⟩ := k r hout hQ
  let mu2 : Nat → Hdr := fun o => match lkR ρ o with
    | none => mu' o
    | some none => default
    | some (some x) => mu' x
  have rc : ∀ F2, (∀ b, F2 b ≤ F' b) → RC ρ (cx B w' mu' F' n') (cx B w' mu2 F2 N) := fun F2 hF2 => ⟨⟨fun b hb => ⟨hb.1, by have := hF2 b; have := hb.2.1; omega, hb.2.2⟩, fun _ _ => rfl, Nat.le_refl _, fun _ _ => rfl⟩, rfl, fun o ho => rfl⟩
  obtain ⟨Fh2, k1, k2⟩ := leH_rep (rc F' (fun _ => Nat.le_refl _)) hout' hout Fh hl ho
  let F2 : Foot := fun b => Fr b + Fh2 b
  have hF2 : ∀ b, F2 b ≤ F' b := fun b => by have := hsum b; have := k2 b; simp only [F2]; omega
  have hx : Ext (cx B w' mu2 F' N) (cx B w' mu2 F2 N) := ⟨fun b hb => ⟨hb.1, by have := hF2 b; have := hb.2.1; omega, hb.2.2⟩, fun _ _ => rfl, Nat.le_refl _, fun _ _ => rfl⟩
  refine ⟨r', hout', hQ', v, mu2, N, F2, Fr, Fh2, he, hN, fun o ho => ?_, ⟨hfin.os, hfin.tape, hfin.output, hfin.size, hfin.old, fun b => Nat.le_trans (hF2 b) (hfin.one b), fun b hb => hfin.blk b (by have := hF2 b; omega)⟩, fun b => rfl, ren_rep (rc F2 hF2) r' v Fr hb (sub_rep _ _ _ _ hr hs), RepH.mono hx _ _ k1 (fun _ _ => rfl)⟩
  show mu2 o = B.mu o
  simp only [mu2]
  rw [lkR_leN ρ o hρ ho]
  exact hmu o ho
end Go.Av
