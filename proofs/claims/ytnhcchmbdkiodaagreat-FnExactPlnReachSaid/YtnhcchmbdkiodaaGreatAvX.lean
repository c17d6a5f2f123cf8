/- Engine, part 21: calls, in few words. -/
import Derived.Test.YtnhcchmbdkiodaaGreatAvW
set_option linter.unusedVariables false
set_option linter.unusedSimpArgs false
set_option autoImplicit false
namespace Go.Av
variable {P : Program}

theorem enters_of [Known P] {f : FuncId} {fn : Func} (hf : P.funcs[f]? = some fn) (hn : (fn.name == "runtime.NumGoroutine") = false) (hb : fn.body.isNone = false) : Enters P f := by
  intro args w
  simp only [callFunc, Sem.run_bind, run_program, Result.andThen_ok, hf, hn, hb, Bool.false_eq_true, if_false, Sem.run_pure]
/-- Plain facts, under one name. -/
theorem eE : (∀ {α : Type} {a b : List α}, a.append b = a ++ b) ∧ (∀ {α : Type} {a b : List α}, (a ++ b).length = a.length + b.length) ∧ (∀ b : Bool, (b && false) = false) ∧ (∀ b : Bool, (true && b) = b) ∧ (∀ b : Bool, (false && b) = false) ∧ (∀ b : Bool, (b && true) = b) ∧ (∀ b : Bool, (b || true) = true) ∧ (∀ b : Bool, (b || false) = b) ∧
    (∀ {α : Type} {a b : α}, (some a).getD b = a) ∧ (∀ {α : Type} (a b : α), cond true a b = a) ∧ (∀ {α : Type} (a b : α), cond false a b = b) ∧ (∀ p : Prop, (True ∧ p) = p) ∧ (∀ p : Prop, (p ∧ True) = p) ∧ (∀ {α β : Type} {f : α → β} {a : α} {l : List α}, List.map f (a :: l) = f a :: List.map f l) ∧ (∀ {α β : Type} {f : α → β}, List.map f [] = []) ∧
    (∀ {α : Type} {a : α} {l : List α}, (a :: l).length = l.length + 1) ∧ (∀ {α : Type}, ([] : List α).length = 0) ∧ (∀ {α : Type} {x : α} {xs : List α} {d : α}, (x :: xs).getD 0 d = x) ∧ (∀ {α : Type} {x : α} {xs : List α} {n : Nat} {d : α}, (x :: xs).getD (n + 1) d = xs.getD n d) ∧ (∀ n : Nat, 0 + n = n) ∧ (∀ b : Bool, (b && b) = b) ∧
    (∀ n : Nat, n < n + 1) ∧ (∀ n : Nat, n ≤ n) ∧ ((!true) = false) ∧ ((!false) = true) ∧ (∀ {α : Type} {a : α} {l r : List α}, a :: l ++ r = a :: (l ++ r)) ∧ (∀ {α : Type} (l : List α), [] ++ l = l) ∧ (∀ b : Bool, (true || b) = true) ∧ (∀ b : Bool, (false || b) = b) ∧ (∀ {α β : Type} {l : List α} (f : α → β), (List.map f l).length = l.length) ∧ (∀ b : Bool, (b || b) = b) ∧
    (∀ n : Nat, n + 0 = n) ∧ (∀ n : Nat, (n : Int).toNat = n) ∧ (∀ {α : Type} {a : α}, List.replicate 0 a = []) ∧ (Int.toNat 0 = 0) :=
  ⟨List.append_eq, List.length_append, Bool.and_false, Bool.true_and, Bool.false_and, Bool.and_true, Bool.or_true, Bool.or_false, Option.getD_some, cond_true, cond_false, true_and, and_true, List.map_cons, List.map_nil, List.length_cons, List.length_nil, List.getD_cons_zero, List.getD_cons_succ, Nat.zero_add, Bool.and_self,
    Nat.lt_add_one, Nat.le_refl, Bool.not_true, Bool.not_false, List.cons_append, List.nil_append, Bool.true_or, Bool.false_or, List.length_map, Bool.or_self, Nat.add_zero, Int.toNat_natCast, List.replicate_zero, Int.toNat_zero⟩
/-- A function's whole promise. -/
structure Fun (P : Program) [Known P] (f : FuncId) (args : List AV) (r : AV) : Prop where
  en : Enters P f
  call : CallA P f args r
theorem fun_of [Known P] {f : FuncId} {fn : Func} {args : List AV} {r : AV} (hf : P.funcs[f]? = some fn) (hn : (fn.name == "runtime.NumGoroutine") = false) (hb : fn.body.isSome = true) (hfit : fitC fn.ntmps (fn.body.getD .skip) = true) (ha : Nat.ble args.length fn.ntmps = true)
    (h : limL args → wpc P 0 (fn.body.getD .skip) (RetW P fn.results.toList r []) ⟨argTm 0 args, [], 0⟩) : Fun P f args r :=
  ⟨enters_of hf hn (by cases hc : fn.body <;> simp_all), callM_of hf hb hfit ha h⟩
theorem Fun.plain [Known P] {f : FuncId} {args args' : List AV} {r : AV} {s : St} {K : St → AV → Prop} (h : Fun P f args' r) (e : args.map AV.nbV = args') (np : npL args = true) (tp : r.top2 = true) (rn : r.np = true)
    (k : K ⟨s.tm, (inst s.nx r).2.1 ++ s.hp, (inst s.nx r).2.2⟩ (inst s.nx r).1) : CallW P f args s K := .plain (fun r' => r' = r) np h.en (e ▸ h.call) fun r' hr => by subst hr; exact ⟨tp, rn, k⟩
theorem Fun.lent [Known P] {f : FuncId} {args args' : List AV} {r : AV} {s : St} {K : St → AV → Prop} (h : Fun P f args' r) (e : (args.map (pur 4 s.hp)).map AV.nbV = args') (np : npL (args.map (pur 4 s.hp)) = true) (tp : r.top2 = true) (rn : r.np = true) (na : r.na = true)
    (k : K ⟨s.tm, (inst s.nx r).2.1 ++ s.hp, (inst s.nx r).2.2⟩ (inst s.nx r).1) : CallW P f args s K := .lent (fun r' => r' = r) np h.en (e ▸ h.call) fun r' hr => by subst hr; exact ⟨tp, rn, na, k⟩
theorem Fun.pcall [Known P] {f : FuncId} {args args' : List AV} {r : AV} {K : AV → Prop} (h : Fun P f args' r) (e : args.map AV.nbV = args') (np : npL args = true) (tp : r.top2 = true) (rn : r.np = true) (pu : r.pu = true) (k : K r) : PCall P f args K :=
  ⟨r, np, tp, rn, pu, h.en, e ▸ h.call, k⟩
/-- The same of a function that writes objects that it is lent. -/
structure FunM (P : Program) [Known P] (f : FuncId) (n : Nat) (args : List AV) (hin : Hp) (r : AV) (hout : Hp) : Prop where
  en : Enters P f
  call : CallM P f n args hin r hout
theorem fun_ofM [Known P] {f : FuncId} {fn : Func} {n : Nat} {args : List AV} {hin hout : Hp} {r : AV} (hf : P.funcs[f]? = some fn) (hn : (fn.name == "runtime.NumGoroutine") = false) (hb : fn.body.isSome = true) (hfit : fitC fn.ntmps (fn.body.getD .skip) = true) (ha : Nat.ble args.length fn.ntmps = true)
    (h : limL args → wpc P n (fn.body.getD .skip) (RetW P fn.results.toList r hout) ⟨argTm 0 args, hin, n⟩) : FunM P f n args hin r hout :=
  ⟨enters_of hf hn (by cases hc : fn.body <;> simp_all), callM_of hf hb hfit ha h⟩
theorem FunM.lend [Known P] {f : FuncId} {n : Nat} {args args' : List AV} {hin hout : Hp} {r : AV} {s : St} {K : St → AV → Prop} (h : FunM P f n args' hin r hout) (ρ : Ren) (N : Nat) (fu : fullR ρ s.nx n) (ke : keysR n ρ) (ha : subL (args.map AV.nbV) (renL ρ args') ∧ nblL ρ n args') (hh : leH ρ n s.hp hin)
    (bh : blwH (n + N) hout) (br : blw (n + N) r) (rp : r.pu = true) (k : K ⟨s.tm, mapH (sg ρ s.nx n) hout ++ takeH ρ s.hp hin, s.nx + N⟩ (mapN (sg ρ s.nx n) r)) : CallW P f args s K :=
  .lend ρ n args' hin _ fu ke ha hh h.en h.call fun r' hout' hr => by obtain ⟨rfl, rfl⟩ := hr; exact ⟨N, bh, br, rp, k⟩
abbrev B (l : List UInt8) : AV := .sl 1 (l.map byt) [.int .u8 0]
abbrev BO (l : List UInt8) : AV := .own 1 (l.map byt) [.int .u8 0]
abbrev BH (l : List UInt8) : Ob := ⟨1, l.map byt, [.int .u8 0], false⟩
theorem rdR_map {α : Type} (f : α → List AV) (hf : ∀ x, rdL (f x) = f x) : ∀ l : List α, rdR (l.map f) = l.map f
  | [] => rfl
  | x :: l => by rw [List.map_cons, rdR, hf, rdR_map f hf l]
theorem rdR_byt (l : List UInt8) : rdR (l.map byt) = l.map byt := rdR_map byt (fun _ => rfl) l
theorem naR_map {α : Type} (f : α → List AV) (hf : ∀ x, naL (f x) = true) : ∀ l : List α, naR (l.map f) = true
  | [] => rfl
  | x :: l => by rw [List.map_cons, naR, hf, naR_map f hf l]; rfl
theorem naR_byt (l : List UInt8) : naR (l.map byt) = true := naR_map byt (fun _ => rfl) l
theorem nneg (n : Nat) : decide ((n : Int) < 0) = false := decide_eq_false (by omega)
/-- Bytes marked from m on. -/
def mkl (m n : Nat) : List UInt8 := (List.range n).map fun j => UInt8.ofNat (m + j)
def mks (m i : Nat) (l : List UInt8) : List UInt8 := mkl m i ++ l.drop i
theorem mkl_length (m n : Nat) : (mkl m n).length = n := by simp [mkl]
theorem mks_length {m i : Nat} {l : List UInt8} (h : i ≤ l.length) : (mks m i l).length = l.length := by simp [mks, mkl]; omega
theorem mks_all (m : Nat) (l : List UInt8) : mks m l.length l = mkl m l.length := by simp [mks]
theorem mks_set {m i : Nat} {l : List UInt8} (h : i < l.length) : (mks m i l).set i (UInt8.ofNat (m + i)) = mks m (i + 1) l := by
  unfold mks mkl
  have hl : ((List.range i).map fun j => UInt8.ofNat (m + j)).length = i := by simp
  rw [List.set_append_right _ _ (by omega), hl, Nat.sub_self, List.drop_eq_getElem_cons h, List.set_cons_zero, List.range_succ, List.map_append, List.append_assoc]
  rfl
theorem mkl_get {m n j : Nat} (h : j < n) : (mkl m n).getD j 0 = UInt8.ofNat (m + j) := by
  unfold mkl
  rw [List.getD_eq_getElem?_getD, List.getElem?_map, List.getElem?_range h]; rfl
theorem wrap_byte (m : Nat) : IntKind.u8.wrap (m : Int) = ((UInt8.ofNat m).toNat : Int) := by
  simp [IntKind.wrap, IntKind.bits, IntKind.signed]
/-! ### Promises that leave open which of several results comes -/
structure FunX (P : Program) [Known P] (f : FuncId) (n : Nat) (args : List AV) (hin : Hp) (Q : AV → Hp → Prop) : Prop where
  en : Enters P f
  call : CallX P f n args hin Q
theorem fun_ofX [Known P] {f : FuncId} {fn : Func} {n : Nat} {args : List AV} {hin : Hp} {Q : AV → Hp → Prop} (hf : P.funcs[f]? = some fn) (hn : (fn.name == "runtime.NumGoroutine") = false) (hb : fn.body.isSome = true) (hfit : fitC fn.ntmps (fn.body.getD .skip) = true) (ha : Nat.ble args.length fn.ntmps = true)
    (h : limL args → wpc P n (fn.body.getD .skip) (RetX P fn.results.toList Q) ⟨argTm 0 args, hin, n⟩) : FunX P f n args hin Q :=
  ⟨enters_of hf hn (by cases hc : fn.body <;> simp_all), callX_of hf hb hfit ha h⟩
theorem fun_ofR [Known P] {f : FuncId} {fn : Func} {n : Nat} {args : List AV} {hin : Hp} {Q : AV → Hp → Prop} (hf : P.funcs[f]? = some fn) (hn : (fn.name == "runtime.NumGoroutine") = false) (hb : fn.body.isSome = true) (hfit : fitC fn.ntmps (fn.body.getD .skip) = true) (ha : Nat.ble args.length fn.ntmps = true)
    (h : limL args → wpc P n (fn.body.getD .skip) (RetR P fn.results.toList Q) ⟨argTm 0 args, hin, n⟩) : FunX P f n args hin Q :=
  ⟨enters_of hf hn (by cases hc : fn.body <;> simp_all), callR_of hf hb hfit ha h⟩
theorem RetRE {P : Program} [Known P] {rs : List ResultVar} {Q : AV → Hp → Prop} : (∀ s, RetR P rs Q .normal s = resR P rs s.tm s.hp (fun vs => ∃ r hout, Q r hout ∧ sub (pkR vs) r ∧ selH s.hp hout)) ∧ (∀ s, RetR P rs Q .ret s = resR P rs s.tm s.hp (fun vs => ∃ r hout, Q r hout ∧ sub (pkR vs) r ∧ selH s.hp hout)) :=
  ⟨fun _ => rfl, fun _ => rfl⟩
theorem FunX.plain [Known P] {f : FuncId} {args args' : List AV} {Q : AV → Prop} {s : St} {K : St → AV → Prop} (h : FunX P f 0 args' [] (fun r h => Q r ∧ h = [])) (e : args.map AV.nbV = args') (np : npL args = true)
    (k : ∀ r, Q r → r.top2 = true ∧ r.np = true ∧ K ⟨s.tm, (inst s.nx r).2.1 ++ s.hp, (inst s.nx r).2.2⟩ (inst s.nx r).1) : CallW P f args s K := .plain Q np h.en (e ▸ h.call) k
theorem FunX.lent [Known P] {f : FuncId} {args args' : List AV} {Q : AV → Prop} {s : St} {K : St → AV → Prop} (h : FunX P f 0 args' [] (fun r h => Q r ∧ h = [])) (e : (args.map (pur 4 s.hp)).map AV.nbV = args') (np : npL (args.map (pur 4 s.hp)) = true)
    (k : ∀ r, Q r → r.top2 = true ∧ r.np = true ∧ r.na = true ∧ K ⟨s.tm, (inst s.nx r).2.1 ++ s.hp, (inst s.nx r).2.2⟩ (inst s.nx r).1) : CallW P f args s K := .lent Q np h.en (e ▸ h.call) k
theorem FunX.lend [Known P] {f : FuncId} {n : Nat} {args args' : List AV} {hin : Hp} {Q : AV → Hp → Prop} {s : St} {K : St → AV → Prop} (h : FunX P f n args' hin Q) (ρ : Ren) (fu : fullR ρ s.nx n) (ke : keysR n ρ) (ha : subL (args.map AV.nbV) (renL ρ args') ∧ nblL ρ n args') (hh : leH ρ n s.hp hin)
    (k : ∀ r hout, Q r hout → ∃ N, blwH (n + N) hout ∧ blw (n + N) r ∧ r.pu = true ∧ K ⟨s.tm, mapH (sg ρ s.nx n) hout ++ takeH ρ s.hp hin, s.nx + N⟩ (mapN (sg ρ s.nx n) r)) : CallW P f args s K := .lend ρ n args' hin Q fu ke ha hh h.en h.call k
theorem RetXE {P : Program} [Known P] {rs : List ResultVar} {Q : AV → Hp → Prop} : (∀ s, RetX P rs Q .normal s = resW P rs s.tm s.hp (fun vs h => ∃ r hout, Q r hout ∧ sub (pkR vs) r ∧ selH h hout)) ∧ (∀ s, RetX P rs Q .ret s = resW P rs s.tm s.hp (fun vs h => ∃ r hout, Q r hout ∧ sub (pkR vs) r ∧ selH h hout)) :=
  ⟨fun _ => rfl, fun _ => rfl⟩
end Go.Av
