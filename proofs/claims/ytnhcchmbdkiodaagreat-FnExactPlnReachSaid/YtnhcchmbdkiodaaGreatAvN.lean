/- Engine, part 14: a state that says less: for the heads of loops. -/
import Derived.Test.YtnhcchmbdkiodaaGreatAvM
set_option linter.unusedVariables false
set_option linter.unusedSimpArgs false
set_option autoImplicit false
namespace Go.Av

def leT (ρ : Ren) (N : Nat) (tm : List (Nat × AV)) : List (Nat × AV) → Prop
  | [] => True
  | (t, v) :: l => nbl ρ N v ∧ sub (gtm tm t) (ren ρ v) ∧ leT ρ N tm l
/-- No old name below is another's. -/
def leN (n : Nat) : Ren → Prop
  | [] => True
  | (o, _) :: r => n ≤ o ∧ leN n r
theorem lkR_leN {n : Nat} : ∀ (ρ : Ren) (o : Nat), leN n ρ → o < n → lkR ρ o = none
  | [], o, h, ho => rfl
  | (m, x) :: r, o, h, ho => by
    rw [lkR]
    cases hb : Nat.beq m o with
    | true => have := Nat.eq_of_beq_eq_true hb; have := h.1; omega
    | false => exact lkR_leN r o h.2 ho
theorem leT_rep {ρ : Ren} {C C' : Cx} (h : RC ρ C C') {tm : List (Nat × AV)} {tmps : Nat → Value} (ht : ∀ t, Rep C (gtm tm t) (tmps t) (fun _ => 0)) : ∀ (l : List (Nat × AV)), leT ρ C'.nx tm l → ∀ t, Rep C' (gtm l t) (tmps t) (fun _ => 0)
  | [], hl, t => fun _ => rfl
  | (u, v) :: l, hl, t => by
    rw [gtm]
    cases hb : Nat.beq u t with
    | true =>
      obtain rfl := Nat.eq_of_beq_eq_true hb
      exact ren_rep h v _ _ hl.1 (sub_rep _ _ _ _ (ht u) hl.2.1)
    | false => exact leT_rep h ht l hl.2.2 t
/-- The first state says all that the second says, under other names. -/
theorem Le.of {P : Program} [Known P] {n : Nat} {s S : St} (ρ : Ren) (h0 : n ≤ S.nx) (hn : leN n ρ) (ht : leT ρ S.nx s.tm S.tm) (hh : leH ρ S.nx s.hp S.hp) : Le P n s S := by
  rintro B a w rfl ⟨mu, F, c⟩
  let mu' : Nat → Hdr := fun o => match lkR ρ o with
    | none => mu o
    | some none => default
    | some (some x) => mu x
  have rc : ∀ F', (∀ b, F' b ≤ F b) → RC ρ (cx B w mu F s.nx) (cx B w mu' F' S.nx) := fun F' hF => ⟨⟨fun b hb => ⟨hb.1, by have := hF b; have := hb.2.1; omega, hb.2.2⟩, fun _ _ => rfl, Nat.le_refl _, fun _ _ => rfl⟩, rfl, fun o ho => rfl⟩
  obtain ⟨F', k1, k2⟩ := leH_rep (rc F (fun _ => Nat.le_refl _)) S.hp s.hp F hh c.hp
  have hx : Ext (cx B w mu' F S.nx) (cx B w mu' F' S.nx) := ⟨fun b hb => ⟨hb.1, by have := k2 b; have := hb.2.1; omega, hb.2.2⟩, fun _ _ => rfl, Nat.le_refl _, fun _ _ => rfl⟩
  refine ⟨mu', F', c.defers, h0, fun o ho => ?_, c.os, c.tape, c.output, c.size, c.old, fun b => Nat.le_trans (k2 b) (c.one b), fun b hb => c.blk b (by have := k2 b; omega), leT_rep (rc F' k2) c.tm S.tm ht, RepH.mono hx _ _ k1 (fun _ _ => rfl)⟩
  show mu' o = B.mu o
  simp only [mu']
  rw [lkR_leN ρ o hn ho]
  exact c.mub o ho
/-! ### The same, closed up, for 'simp': a rest is not looked into before its turn. They are structures, so that the kernel doesn't look into them either. -/
def Seq0 (P : Program) [Known P] (n : Nat) (b : Code) (Q : Exit → St → Prop) : Exit → St → Prop := fun e s => match e with
  | .normal => wpc P n b Q s
  | e => Q e s
structure Seq (P : Program) [Known P] (n : Nat) (b : Code) (Q : Exit → St → Prop) (e : Exit) (s : St) : Prop where
  h : Seq0 P n b Q e s
theorem Seq_eq {P : Program} [Known P] {n : Nat} {b : Code} {Q : Exit → St → Prop} : Seq P n b Q = Seq0 P n b Q := funext fun _ => funext fun _ => propext ⟨Seq.h, Seq.mk⟩
theorem SeqE {P : Program} [Known P] {n : Nat} : (∀ b Q s, Seq P n b Q .normal s = wpc P n b Q s) ∧ (∀ b Q s, Seq P n b Q .ret s = Q .ret s) ∧ (∀ b Q s i, Seq P n b Q (.exit i) s = Q (.exit i) s) := by
  refine ⟨?_, ?_, ?_⟩ <;> intros <;> rw [Seq_eq] <;> rfl
def Blk0 (id : Nat) (Q : Exit → St → Prop) : Exit → St → Prop := fun e s => match e with
  | .exit i => (match Nat.beq i id with | true => Q .normal s | false => Q (.exit i) s)
  | e => Q e s
structure Blk (id : Nat) (Q : Exit → St → Prop) (e : Exit) (s : St) : Prop where
  h : Blk0 id Q e s
theorem Blk_eq {id : Nat} {Q : Exit → St → Prop} : Blk id Q = Blk0 id Q := funext fun _ => funext fun _ => propext ⟨Blk.h, Blk.mk⟩
theorem BlkE : (∀ id Q s, Blk id Q .normal s = Q .normal s) ∧ (∀ id Q s, Blk id Q .ret s = Q .ret s) ∧ (∀ id Q s i, Blk id Q (.exit i) s = match Nat.beq i id with | true => Q .normal s | false => Q (.exit i) s) := by
  refine ⟨?_, ?_, ?_⟩ <;> intros <;> rw [Blk_eq] <;> rfl
structure Nxt (P : Program) [Known P] (r ops : List Oper) (d : Option Tmp) (k : St → Prop) (s : St) (v : AV) : Prop where
  h : wops P r ops (s.put d v) k
theorem Nxt_eq {P : Program} [Known P] {r ops : List Oper} {d : Option Tmp} {k : St → Prop} : Nxt P r ops d k = fun s v => wops P r ops (s.put d v) k := funext fun _ => funext fun _ => propext ⟨Nxt.h, Nxt.mk⟩
/-- Code, step by step; a loop stays as it is. -/
theorem wpcE {P : Program} [Known P] {n : Nat} : (∀ Q s, wpc P n .skip Q s = Q .normal s) ∧
    (∀ a b Q s, wpc P n (.seq a b) Q s = wpc P n a (Seq P n b Q) s) ∧
    (∀ c t e Q s, wpc P n (.cond c t e) Q s = match s.ev c with
      | .tt => wpc P n t Q s
      | .ff => wpc P n e Q s
      | .bool b => If b (wpc P n t Q s) (wpc P n e Q s)
      | _ => False) ∧
    (∀ id c Q s, wpc P n (.block id c) Q s = wpc P n c (Blk id Q) s) ∧
    (∀ id Q s, wpc P n (.exit id) Q s = Q (.exit id) s) ∧ (∀ Q s, wpc P n .ret Q s = Q .ret s) ∧
    (∀ id ops Q s, wpc P n (.region id ops false) Q s = wops P ops.toList ops.toList s (Q .normal)) :=
  ⟨fun _ _ => rfl, fun _ _ _ _ => by rw [Seq_eq]; rfl, fun _ _ _ _ _ => rfl, fun _ _ _ _ => by rw [Blk_eq]; rfl, fun _ _ _ => rfl, fun _ _ => rfl, fun _ _ _ _ => rfl⟩
theorem wopsE {P : Program} [Known P] : (∀ ops s k, wops P [] ops s k = k s) ∧
    (∀ dst op ty pos after r ops s k, wops P (⟨dst, op, ty, pos, after, none⟩ :: r) ops s k = stp P op s (Nxt P r ops dst k)) ∧
    (∀ dst op ty pos after j x r ops s k, wops P (⟨dst, op, ty, pos, after, some (j, x)⟩ :: r) ops s k = match dstOf ops j with
      | none => False
      | some t => match gtm s.tm t with
        | .tt => stg P x ⟨dst, op, ty, pos, after, some (j, x)⟩ s (Nxt P r ops dst k)
        | .ff => stg P (!x) ⟨dst, op, ty, pos, after, some (j, x)⟩ s (Nxt P r ops dst k)
        | .bool b => If b (stg P x ⟨dst, op, ty, pos, after, some (j, x)⟩ (s.put (some t) .tt) (Nxt P r ops dst k)) (stg P (!x) ⟨dst, op, ty, pos, after, some (j, x)⟩ (s.put (some t) .ff) (Nxt P r ops dst k))
        | .tup _ => stg P false ⟨dst, op, ty, pos, after, some (j, x)⟩ s (Nxt P r ops dst k)
        | _ => False) ∧
    (∀ o s K, stg P true o s K = stp P o.op s K) ∧ (∀ o s K, stg P false o s K = K s (.tup [])) ∧
    (∀ r ops d k s v, Nxt P r ops d k s v = wops P r ops (s.put d v) k) :=
  ⟨fun _ _ _ => rfl, fun _ _ _ _ _ _ _ _ _ => by rw [Nxt_eq]; rfl, fun _ _ _ _ _ _ _ _ _ _ _ => by rw [Nxt_eq]; rfl, fun _ _ _ => rfl, fun _ _ _ => rfl, fun _ _ _ _ _ _ => by rw [Nxt_eq]⟩
/-- One round of a loop: it goes on, or it leaves. -/
def Rnd0 {X : Type} (P : Program) [Known P] (n : Nat) (S : X → St) (m : X → Nat) (Q : Exit → St → Prop) (x : X) : Exit → St → Prop := fun e s' => match e with
  | .normal => ∃ x', m x' < m x ∧ Le P n s' (S x')
  | e => Q e s'
structure Rnd {X : Type} (P : Program) [Known P] (n : Nat) (S : X → St) (m : X → Nat) (Q : Exit → St → Prop) (x : X) (e : Exit) (s : St) : Prop where
  h : Rnd0 P n S m Q x e s
theorem Rnd_eq {X : Type} {P : Program} [Known P] {n : Nat} {S : X → St} {m : X → Nat} {Q : Exit → St → Prop} {x : X} : Rnd P n S m Q x = Rnd0 P n S m Q x := funext fun _ => funext fun _ => propext ⟨Rnd.h, Rnd.mk⟩
theorem RndE {X : Type} {P : Program} [Known P] {n : Nat} {S : X → St} {m : X → Nat} : (∀ Q x s, Rnd P n S m Q x .normal s = ∃ x', m x' < m x ∧ Le P n s (S x')) ∧ (∀ Q x s, Rnd P n S m Q x .ret s = Q .ret s) ∧ (∀ Q x s i, Rnd P n S m Q x (.exit i) s = Q (.exit i) s) := by
  refine ⟨?_, ?_, ?_⟩ <;> intros <;> rw [Rnd_eq] <;> rfl
theorem wpc_loop {P : Program} [Known P] {n : Nat} {c : Code} {Q : Exit → St → Prop} {s : St} (X : Type) (S : X → St) (m : X → Nat) (x : X) (h : Le P n s (S x))
    (step : ∀ x, wpc P n c (Rnd P n S m Q x) (S x)) : wpc P n (.loop c) Q s := ⟨X, S, m, x, h, fun x => by have := step x; rw [Rnd_eq] at this; exact this⟩
theorem wpc_loop2 {P : Program} [Known P] {n : Nat} {c : Code} {Q : Exit → St → Prop} {s : St} (X : Type) (S : X → St) (m : X → Nat) (x : X)
    (step : ∀ x, wpc P n c (Rnd P n S m Q x) (S x)) (h : Le P n s (S x)) : wpc P n (.loop c) Q s := wpc_loop X S m x h step
theorem wpc_draw {P : Program} [Known P] {n id : Nat} {ops : Array Oper} {Q : Exit → St → Prop} {s : St} (T : Tr) (hm : P.follows .mixedOrders = true) (hT : okT .any ops false T ops.size (Array.replicate ops.size false) = true) (h : wtr P ops.toList (Q .normal) T s) :
    wpc P n (.region id ops true) Q s := ⟨hm, .inl ⟨T, hT, h⟩⟩
theorem wpc_read {P : Program} [Known P] {n id : Nat} {ops : Array Oper} {Q : Exit → St → Prop} {s : St} (T : List Nat) (hm : P.follows .mixedOrders = true) (hT : okH .any ops T ops.size (Array.replicate ops.size false) = true) (h : wth P ops.toList (Q .normal) T s) :
    wpc P n (.region id ops true) Q s := ⟨hm, .inr ⟨T, hT, h⟩⟩
/-! Trees of orders, closed up. -/
structure NxP (P : Program) [Known P] (ops : List Oper) (k : St → Prop) (t : Tr) (d : Option Tmp) (s : St) (v : AV) : Prop where
  h : wtr P ops k t (s.put d v)
theorem NxP_eq {P : Program} [Known P] {ops : List Oper} {k : St → Prop} {t : Tr} {d : Option Tmp} : NxP P ops k t d = fun s v => wtr P ops k t (s.put d v) := funext fun _ => funext fun _ => propext ⟨NxP.h, NxP.mk⟩
def NxG0 (P : Program) [Known P] (ops : List Oper) (k : St → Prop) (t : Tr) (o : Oper) (g p : Bool) (s : St) : Prop := match p with
  | true => goP P o (wtr P ops k t) g s
  | false => goA P o (wtr P ops k t) g s
structure NxG (P : Program) [Known P] (ops : List Oper) (k : St → Prop) (t : Tr) (o : Oper) (g p : Bool) (s : St) : Prop where
  h : NxG0 P ops k t o g p s
theorem NxG_eq {P : Program} [Known P] {ops : List Oper} {k : St → Prop} {t : Tr} {o : Oper} {g p : Bool} {s : St} : NxG P ops k t o g p s = NxG0 P ops k t o g p s := propext ⟨NxG.h, NxG.mk⟩
theorem wtrE {P : Program} [Known P] : (∀ ops k s, wtr P ops k .done s = k s) ∧ (∀ ops k s, wtr P ops k .stop s = True) ∧
    (∀ ops k i t s, wtr P ops k (.take i t) s = match ops[i]? with
      | some o => gOp ops o s (fun g s => NxG P ops k t o g true s)
      | none => False) ∧
    (∀ ops k i t r s, wtr P ops k (.alt i t r) s = ((match ops[i]? with
      | some o => gOp ops o s (fun g s => NxG P ops k t o g false s)
      | none => False) ∧ wtr P ops k r s)) ∧
    (∀ ops k t dst op ty pos after gu s, NxG P ops k t ⟨dst, op, ty, pos, after, gu⟩ true true s = pst P op s (NxP P ops k t dst s)) ∧
    (∀ ops k t dst op ty pos after gu s, NxG P ops k t ⟨dst, op, ty, pos, after, gu⟩ true false s = stp P op s (NxP P ops k t dst)) ∧
    (∀ ops k t dst op ty pos after gu s p, NxG P ops k t ⟨dst, op, ty, pos, after, gu⟩ false p s = wtr P ops k t (s.put dst (.tup []))) ∧
    (∀ ops k t d s v, NxP P ops k t d s v = wtr P ops k t (s.put d v)) :=
  ⟨fun _ _ _ => rfl, fun _ _ _ => rfl, fun _ _ _ _ _ => by simp only [NxG_eq]; rfl, fun _ _ _ _ _ _ => by simp only [NxG_eq]; rfl, fun _ _ _ _ _ _ _ _ _ _ => by rw [NxG_eq, NxP_eq]; rfl, fun _ _ _ _ _ _ _ _ _ _ => by rw [NxG_eq, NxP_eq]; rfl, fun _ _ _ _ _ _ _ _ _ _ p => by rw [NxG_eq]; cases p <;> rfl, fun _ _ _ _ _ _ => by rw [NxP_eq]⟩
structure NxS (P : Program) [Known P] (ops : List Oper) (k : St → Prop) (t : List Nat) (d : Option Tmp) (s : St) (v : AV) : Prop where
  h : wth P ops k t (s.put d v)
theorem NxS_eq {P : Program} [Known P] {ops : List Oper} {k : St → Prop} {t : List Nat} {d : Option Tmp} : NxS P ops k t d = fun s v => wth P ops k t (s.put d v) := funext fun _ => funext fun _ => propext ⟨NxS.h, NxS.mk⟩
structure NxR (P : Program) [Known P] (ops : List Oper) (k : St → Prop) (t : List Nat) (o : Oper) (g : Bool) (s : St) : Prop where
  h : goH P o (wth P ops k t) g s
theorem NxR_eq {P : Program} [Known P] {ops : List Oper} {k : St → Prop} {t : List Nat} {o : Oper} {g : Bool} {s : St} : NxR P ops k t o g s = goH P o (wth P ops k t) g s := propext ⟨NxR.h, NxR.mk⟩
theorem wthE {P : Program} [Known P] : (∀ ops k s, wth P ops k [] s = k s) ∧
    (∀ ops k i t s, wth P ops k (i :: t) s = match ops[i]? with
      | some o => gOp ops o s (fun g s => NxR P ops k t o g s)
      | none => False) ∧
    (∀ ops k t dst op ty pos after gu s, NxR P ops k t ⟨dst, op, ty, pos, after, gu⟩ true s = hst P op s (NxS P ops k t dst s)) ∧
    (∀ ops k t dst op ty pos after gu s, NxR P ops k t ⟨dst, op, ty, pos, after, gu⟩ false s = wth P ops k t (s.put dst (.tup []))) ∧
    (∀ ops k t d s v, NxS P ops k t d s v = wth P ops k t (s.put d v)) :=
  ⟨fun _ _ _ => rfl, fun _ _ _ _ _ => by simp only [NxR_eq]; rfl, fun _ _ _ _ _ _ _ _ _ _ => by rw [NxR_eq, NxS_eq]; rfl, fun _ _ _ _ _ _ _ _ _ _ => by rw [NxR_eq]; rfl, fun _ _ _ _ _ _ => by rw [NxS_eq]⟩
theorem hstE {P : Program} [Known P] : (∀ t a s K, hst P (.load t a) s K = match tyT P t, s.ev a with
    | some (g, n), .cp o i off => (match geth s.hp o with
      | some ob => i < ob.rows.length ∧ 0 < n ∧ off + n ≤ ob.e ∧ puL (((ob.rows.getD i ob.d).drop off).take n) = true ∧ K (packT g (((ob.rows.getD i ob.d).drop off).take n))
      | none => False)
    | _, _ => pst P (.load t a) s K) ∧
    (∀ t x i s K, hst P (.indexAddr t x i) s K = match elT P t, s.ev x, s.ev i with
    | some (_, e, _), .os o, .int _ j => (match geth s.hp o with
      | some ob => e = ob.e ∧ 0 ≤ j ∧ j < ob.rows.length ∧ K (.cp o j.toNat 0)
      | none => False)
    | _, _, _ => pst P (.indexAddr t x i) s K) ∧
    (∀ c s K, hst P (.call c) s K = pst P (.call c) s K) ∧ (∀ x s K, hst P (.move x) s K = pst P (.move x) s K) ∧ (∀ x s K, hst P (.assign x) s K = pst P (.assign x) s K) ∧
    (∀ x y z s K, hst P (.pick x y z) s K = pst P (.pick x y z) s K) ∧ (∀ x s K, hst P (.nilCheck x) s K = pst P (.nilCheck x) s K) ∧ (∀ t x f s K, hst P (.fieldAddr t x f) s K = pst P (.fieldAddr t x f) s K) ∧
    (∀ t x f s K, hst P (.field t x f) s K = pst P (.field t x f) s K) ∧ (∀ t x f s K, hst P (.index t x f) s K = pst P (.index t x f) s K) ∧ (∀ t x l h m s K, hst P (.slice t x l h m) s K = pst P (.slice t x l h m) s K) ∧
    (∀ op t x y u s K, hst P (.binOp op t x y u) s K = pst P (.binOp op t x y u) s K) ∧ (∀ op t x s K, hst P (.unOp op t x) s K = pst P (.unOp op t x) s K) ∧ (∀ t u x s K, hst P (.convert t u x) s K = pst P (.convert t u x) s K) ∧
    (∀ t ps s K, hst P (.build t ps) s K = pst P (.build t ps) s K) ∧ (∀ t x s K, hst P (.makeInterface t x) s K = pst P (.makeInterface t x) s K) ∧ (∀ x t u b s K, hst P (.typeAssert x t u b) s K = pst P (.typeAssert x t u b) s K) ∧
    (∀ x i s K, hst P (.extract x i) s K = pst P (.extract x i) s K) := by
  refine ⟨?_, ?_, ?_, ?_, ?_, ?_, ?_, ?_, ?_, ?_, ?_, ?_, ?_, ?_, ?_, ?_, ?_, ?_⟩ <;> intros <;> first
    | rfl
    | (simp only [hst]; done)
theorem pstE {P : Program} [Known P] : (∀ c s K, pst P (.call c) s K = match c.callee with
      | .builtin .len => lenP P s c.args.toList c.argTypes.toList K
      | .value f => match s.ev f with
        | .fn g caps => PCall P g (c.args.toList.map s.ev ++ caps) K
        | _ => False
      | .invoke r name => match s.ev r with
        | .iface t v => ∃ f v', Meth P t name f v v' ∧ PCall P f (v' :: c.args.toList.map s.ev) K
        | _ => False
      | _ => False) ∧ (∀ x s K, pst P (.move x) s K = K (s.ev x)) ∧ (∀ x s K, pst P (.assign x) s K = K (s.ev x)) ∧
    (∀ t x s K, pst P (.load t x) s K = stp P (.load t x) ⟨s.tm, [], 0⟩ (Pk K)) ∧ (∀ x y z s K, pst P (.pick x y z) s K = stp P (.pick x y z) ⟨s.tm, [], 0⟩ (Pk K)) ∧
    (∀ x s K, pst P (.nilCheck x) s K = stp P (.nilCheck x) ⟨s.tm, [], 0⟩ (Pk K)) ∧ (∀ t x f s K, pst P (.fieldAddr t x f) s K = stp P (.fieldAddr t x f) ⟨s.tm, [], 0⟩ (Pk K)) ∧
    (∀ t x f s K, pst P (.field t x f) s K = stp P (.field t x f) ⟨s.tm, [], 0⟩ (Pk K)) ∧ (∀ t x f s K, pst P (.indexAddr t x f) s K = stp P (.indexAddr t x f) ⟨s.tm, [], 0⟩ (Pk K)) ∧
    (∀ t x f s K, pst P (.index t x f) s K = stp P (.index t x f) ⟨s.tm, [], 0⟩ (Pk K)) ∧ (∀ t x l h m s K, pst P (.slice t x l h m) s K = stp P (.slice t x l h m) ⟨s.tm, [], 0⟩ (Pk K)) ∧
    (∀ op t x y u s K, pst P (.binOp op t x y u) s K = stp P (.binOp op t x y u) ⟨s.tm, [], 0⟩ (Pk K)) ∧ (∀ op t x s K, pst P (.unOp op t x) s K = stp P (.unOp op t x) ⟨s.tm, [], 0⟩ (Pk K)) ∧
    (∀ t u x s K, pst P (.convert t u x) s K = stp P (.convert t u x) ⟨s.tm, [], 0⟩ (Pk K)) ∧ (∀ t ps s K, pst P (.build t ps) s K = stp P (.build t ps) ⟨s.tm, [], 0⟩ (Pk K)) ∧
    (∀ t x s K, pst P (.makeInterface t x) s K = stp P (.makeInterface t x) ⟨s.tm, [], 0⟩ (Pk K)) ∧ (∀ f x y s K, pst P (.makeFunc f x y) s K = stp P (.makeFunc f x y) ⟨s.tm, [], 0⟩ (Pk K)) ∧
    (∀ x t u b s K, pst P (.typeAssert x t u b) s K = stp P (.typeAssert x t u b) ⟨s.tm, [], 0⟩ (Pk K)) ∧ (∀ x i s K, pst P (.extract x i) s K = stp P (.extract x i) ⟨s.tm, [], 0⟩ (Pk K)) ∧
    (∀ K h v, Pk K ⟨h, [], 0⟩ v = K v) := by
  have e : ∀ (s : St) x, (⟨s.tm, [], 0⟩ : St).ev x = s.ev x := fun s x => by cases x <;> rfl
  refine ⟨?_, ?_, ?_, ?_, ?_, ?_, ?_, ?_, ?_, ?_, ?_, ?_, ?_, ?_, ?_, ?_, ?_, ?_, ?_, ?_⟩ <;> intros <;> first
    | rfl
    | (simp [pst, pureOp, stp, Pk, e]; done)
theorem If_lit {X Y : Prop} : If true X Y = X ∧ If false X Y = Y := ⟨propext ⟨fun h => h.t rfl, fun h => ⟨fun _ => h, fun e => Bool.noConfusion e⟩⟩, propext ⟨fun h => h.f rfl, fun h => ⟨fun e => Bool.noConfusion e, fun _ => h⟩⟩⟩
theorem RetE {P : Program} [Known P] {rs : List ResultVar} {r : AV} {hout : Hp} : (∀ s, RetW P rs r hout .normal s = resW P rs s.tm s.hp (fun vs h => sub (pkR vs) r ∧ selH h hout)) ∧ (∀ s, RetW P rs r hout .ret s = resW P rs s.tm s.hp (fun vs h => sub (pkR vs) r ∧ selH h hout)) :=
  ⟨fun _ => rfl, fun _ => rfl⟩
end Go.Av
