/- Engine, part 5b: what a call promises; what each operation makes of the state. -/
import Derived.Test.YtnhcchmbdkiodaaGreatAvSa
set_option linter.unusedVariables false
set_option linter.unusedSimpArgs false
set_option autoImplicit false
namespace Go.Av

/-- What a call leaves of memory. -/
structure Fin {P : Program} [Known P] (B : Base P) (w : World) (F : Foot) : Prop where
  os : w.os = B.w.os
  tape : w.tape = B.w.tape
  output : w.output = B.w.output
  size : B.w.heap.size ≤ w.heap.size
  old : ∀ b, b < B.w.heap.size → B.F b = 0 → w.heap[b]? = B.w.heap[b]?
  one : ∀ b, F b ≤ 1
  blk : ∀ b, F b ≠ 0 → b < w.heap.size ∧ (B.w.heap.size ≤ b ∨ B.F b ≠ 0)
/-- A call's promise: of arguments and of n objects that it may write; what it returns, what the objects are then. -/
def CallX (P : Program) [Known P] (f : FuncId) (n : Nat) (args : List AV) (hin : Hp) (Q : AV → Hp → Prop) : Prop :=
  ∀ (B : Base P) (vs : List Value), B.n = n → (∀ b, B.F b ≤ 1) → (∀ b, B.F b ≠ 0 → b < B.w.heap.size) →
    RepL (cx B B.w B.mu B.F n) args vs (fun _ => 0) → RepH (cx B B.w B.mu B.F n) hin B.F →
    Calls P f vs.toArray B.w (fun e w' => ∃ (r : AV) (hout : Hp), Q r hout ∧ ∃ (v : Value) (mu' : Nat → Hdr) (n' : Nat) (F' Fr Fh : Foot), e = .returned v ∧ n ≤ n' ∧ (∀ o, o < n → mu' o = B.mu o) ∧ Fin B w' F' ∧
      (∀ b, F' b = Fr b + Fh b) ∧ Rep (cx B w' mu' F' n') r v Fr ∧ RepH (cx B w' mu' F' n') hout Fh)
def CallM (P : Program) [Known P] (f : FuncId) (n : Nat) (args : List AV) (hin : Hp) (r : AV) (hout : Hp) : Prop := CallX P f n args hin fun r' h' => r' = r ∧ h' = hout
def Enters (P : Program) [Known P] (f : FuncId) : Prop := ∀ (args : Array Value) (w : World), (callFunc f args).run P w = .ok (.enter f args) w
abbrev CallA (P : Program) [Known P] (f : FuncId) (args : List AV) (r : AV) : Prop := CallM P f 0 args [] r []

mutual
/-- No object is named in it. -/
def AV.np : AV → Bool
  | .os _ => false
  | .cp _ _ _ => false
  | .agg l => npL l
  | .tup l => npL l
  | .fn _ l => npL l
  | .iface _ x => x.np
  | _ => true
def npL : List AV → Bool
  | [] => true
  | a :: l => a.np && npL l
end
/-- Slices of one's own in a result become objects. -/
def instC : Nat → List AV → List AV × Hp × Nat
  | n, [] => ([], [], n)
  | n, x :: l => match x with
    | .own e rows d => (.os n :: (instC (n + 1) l).1, (n, ⟨e, rows, d, false⟩) :: (instC (n + 1) l).2.1, (instC (n + 1) l).2.2)
    | _ => (x :: (instC n l).1, (instC n l).2.1, (instC n l).2.2)
def instV (n : Nat) : AV → AV × Hp × Nat
  | .agg l => (.agg (instC n l).1, (instC n l).2.1, (instC n l).2.2)
  | .own e rows d => (.os n, [(n, ⟨e, rows, d, false⟩)], n + 1)
  | x => (x, [], n)
def instT : Nat → List AV → List AV × Hp × Nat
  | n, [] => ([], [], n)
  | n, x :: l => ((instV n x).1 :: (instT (instV n x).2.2 l).1, (instV n x).2.1 ++ (instT (instV n x).2.2 l).2.1, (instT (instV n x).2.2 l).2.2)
def inst (n : Nat) : AV → AV × Hp × Nat
  | .tup l => (.tup (instT n l).1, (instT n l).2.1, (instT n l).2.2)
  | x => instV n x

def AV.top : AV → Bool
  | .own _ _ _ => true
  | x => x.pu
def AV.top1 : AV → Bool
  | .agg l => l.all AV.top
  | x => x.top
def AV.top2 : AV → Bool
  | .tup l => l.all AV.top1
  | x => x.top1
mutual
/-- Nothing in it lies in memory that came in. -/
def AV.na : AV → Bool
  | .sl _ _ _ => false
  | .rp _ => false
  | .dead => false
  | .own _ rows _ => naR rows
  | .agg l => naL l
  | .tup l => naL l
  | .fn _ l => naL l
  | .iface _ x => x.na
  | _ => true
def naL : List AV → Bool
  | [] => true
  | a :: l => a.na && naL l
def naR : List (List AV) → Bool
  | [] => true
  | r :: l => naL r && naR l
end
mutual
/-- One's own slices, read only. -/
def AV.rd : AV → AV
  | .own e rows d => .sl e (rdR rows) (rdL d)
  | .agg l => .agg (rdL l)
  | .tup l => .tup (rdL l)
  | .fn f l => .fn f (rdL l)
  | .iface t x => .iface t x.rd
  | x => x
def rdL : List AV → List AV
  | [] => []
  | a :: l => a.rd :: rdL l
def rdR : List (List AV) → List (List AV)
  | [] => []
  | r :: l => rdL r :: rdR l
end
/-- An object that is only read for a while. -/
def pur : Nat → Hp → AV → AV
  | 0, _, _ => .dead
  | n + 1, h, .os o => match geth h o with
    | some ob => match ob.g with
      | false => .sl ob.e (rdR ob.rows) (rdL ob.d)
      | true => .dead
    | none => .dead
  | n + 1, h, .cp o i off => match geth h o with
    | some ob => match Nat.blt i ob.rows.length with
      | true => .rp (((ob.rows.getD i ob.d).drop off).map (pur n h))
      | false => .dead
    | none => .dead
  | _ + 1, _, .own e rows d => .sl e (rdR rows) (rdL d)
  | n + 1, h, .agg l => .agg (l.map (pur n h))
  | n + 1, h, .tup l => .tup (l.map (pur n h))
  | n + 1, h, .fn f l => .fn f (l.map (pur n h))
  | n + 1, h, .iface t x => .iface t (pur n h x)
  | _ + 1, _, x => x

/-- How a call goes on: arguments that name no object; arguments whose objects are read only, where nothing of them comes back. -/
inductive CallW (P : Program) [Known P] (f : FuncId) (args : List AV) (s : St) (K : St → AV → Prop) : Prop where
  | plain (Q : AV → Prop) (np : npL args = true) (en : Enters P f) (h : CallX P f 0 (args.map AV.nbV) [] (fun r h => Q r ∧ h = [])) (k : ∀ r, Q r → r.top2 = true ∧ r.np = true ∧ K ⟨s.tm, (inst s.nx r).2.1 ++ s.hp, (inst s.nx r).2.2⟩ (inst s.nx r).1)
  | lent (Q : AV → Prop) (np : npL (args.map (pur 4 s.hp)) = true) (en : Enters P f) (h : CallX P f 0 ((args.map (pur 4 s.hp)).map AV.nbV) [] (fun r h => Q r ∧ h = [])) (k : ∀ r, Q r → r.top2 = true ∧ r.np = true ∧ r.na = true ∧ K ⟨s.tm, (inst s.nx r).2.1 ++ s.hp, (inst s.nx r).2.2⟩ (inst s.nx r).1)
  | lend (ρ : Ren) (n : Nat) (args' : List AV) (hin : Hp) (Q : AV → Hp → Prop) (fu : fullR ρ s.nx n) (ke : keysR n ρ) (ha : subL (args.map AV.nbV) (renL ρ args') ∧ nblL ρ n args') (hh : leH ρ n s.hp hin) (en : Enters P f) (h : CallX P f n args' hin Q)
      (k : ∀ r hout, Q r hout → ∃ N, blwH (n + N) hout ∧ blw (n + N) r ∧ r.pu = true ∧ K ⟨s.tm, mapH (sg ρ s.nx n) hout ++ takeH ρ s.hp hin, s.nx + N⟩ (mapN (sg ρ s.nx n) r))

/-- A method of a type: its function, and what of the value it takes. -/
def Meth (P : Program) [Known P] (t : TypeId) (name : String) (f : FuncId) (v v' : AV) : Prop := ∀ (C : Cx) (u : Value), Rep C v u (fun _ => 0) → ∃ u', Rep C v' u' (fun _ => 0) ∧ ∀ (args : Array Value) (w : World), (callMethod (.iface t u) name args).run P w = .ok (.enter f (#[u'] ++ args)) w

/-- The bounds of a slice expression. -/
def bndW (s : St) (lo hi : Option Operand) (n : Nat) (K : Nat → Nat → Prop) : Prop := match lo, hi with
  | none, none => K 0 n
  | some a, none => match s.ev a with
    | .int _ l => 0 ≤ l ∧ l ≤ n ∧ K l.toNat n
    | _ => False
  | none, some b => match s.ev b with
    | .int _ h => 0 ≤ h ∧ h ≤ n ∧ K 0 h.toNat
    | _ => False
  | some a, some b => match s.ev a, s.ev b with
    | .int _ l, .int _ h => 0 ≤ l ∧ l ≤ h ∧ h ≤ n ∧ K l.toNat h.toNat
    | _, _ => False
/-- A list with a few cells written anew. -/
def setC (l : List AV) (off : Nat) (c : List AV) : List AV := l.take off ++ c ++ l.drop (off + c.length)
/-- The parts of a struct or an array, laid into its zero. -/
def bldW (P : Program) [Known P] (s : St) (t : TypeId) : List (Nat × Operand) → List AV → (List AV → Prop) → Prop
  | [], z, K => K z
  | (i, x) :: r, z, K => match plT P t i, (s.ev x).cells? with
    | some (off, n), some c => c.length = n ∧ off + n ≤ z.length ∧ bldW P s t r (setC z off c) K
    | _, _ => False
/-- The parts of a slice, each in its place. -/
def rowsW (s : St) (e : Nat) : Nat → List (Nat × Operand) → Hp → (List (List AV) → Hp → Prop) → Prop
  | _, [], h, K => K [] h
  | n, (i, x) :: r, h, K => match Nat.beq n i, (s.ev x).cells? with
    | true, some c => c.length = e ∧ c.all AV.one = true ∧ npL (absC h (c.map AV.nb)).1 = true ∧ rowsW s e (n + 1) r (absC h (c.map AV.nb)).2 (fun rows h' => K ((absC h (c.map AV.nb)).1 :: rows) h')
    | _, _ => False
/-- What is appended, or copied. -/
def srcW (s : St) (e : Nat) (y : AV) (h : Hp) (K : List (List AV) → Hp → Prop) : Prop := match y with
  | .nils => K [] h
  | .sl e' rows _ => e = e' ∧ (rows.length ≤ lim → K rows h)
  | .os o => match geth h o with
    | some ob => e = ob.e ∧ ob.g = false ∧ (ob.rows.length ≤ lim → K ob.rows (remh h o))
    | none => False
  | _ => False

def stp (P : Program) [Known P] (op : Op) (s : St) (K : St → AV → Prop) : Prop :=
  match op with
  | .move x | .assign x => K s (s.ev x)
  | .pick c a b => match s.ev c with
    | .tt => K s (s.ev a)
    | .ff => K s (s.ev b)
    | .bool c => If c (K s (s.ev a)) (K s (s.ev b))
    | _ => False
  | .box _ x => match (s.ev x).cells? with
    | some l => l.all AV.one = true ∧ K ⟨s.tm, (s.nx, ⟨l.length, [(absC s.hp (l.map AV.nb)).1], [], true⟩) :: (absC s.hp (l.map AV.nb)).2, s.nx + 1⟩ (.cp s.nx 0 0)
    | none => False
  | .alloc t => match zeroT P t with
    | some z => K ⟨s.tm, (s.nx, ⟨z.length, [z], [], true⟩) :: s.hp, s.nx + 1⟩ (.cp s.nx 0 0)
    | none => False
  | .load t a => match tyT P t with
    | some (g, n) => match s.ev a with
      | .rp l => n ≤ l.length ∧ 0 < n ∧ K s (packT g (l.take n))
      | .cp o i off => match geth s.hp o with
        | some ob => i < ob.rows.length ∧ 0 < n ∧ off + n ≤ ob.e ∧ (match puL (((ob.rows.getD i ob.d).drop off).take n) with
          | true => K s (packT g (((ob.rows.getD i ob.d).drop off).take n))
          | false => ob.g = true ∧ (((ob.rows.getD i ob.d).drop off).take n).all AV.top = true ∧
            K ⟨s.tm, (instC s.nx (((ob.rows.getD i ob.d).drop off).take n)).2.1 ++ seth s.hp o (setRow ob i off (instC s.nx (((ob.rows.getD i ob.d).drop off).take n)).1), (instC s.nx (((ob.rows.getD i ob.d).drop off).take n)).2.2⟩
              (packT g (instC s.nx (((ob.rows.getD i ob.d).drop off).take n)).1))
        | none => False
      | _ => False
    | none => False
  | .store t a x => match tyT P t, (s.ev x).cells?, s.ev a with
    | some (_, n), some l, .cp o i off => match geth (absC s.hp (l.map AV.nb)).2 o with
        | some ob => i < ob.rows.length ∧ l.length = n ∧ l.all AV.one = true ∧ (ob.g || npL (absC s.hp (l.map AV.nb)).1) = true ∧ off + n ≤ ob.e ∧
            K ⟨s.tm, seth (absC s.hp (l.map AV.nb)).2 o (setAll ob i off (absC s.hp (l.map AV.nb)).1), s.nx⟩ .dead
        | none => False
    | _, _, _ => False
  | .nilCheck x => match s.ev x with
    | .rp l => K s (.rp l)
    | .cp o i off => K s (.cp o i off)
    | .fn f c => K s (.fn f c)
    | _ => False
  | .fieldAddr t x f => match fldT P t f with
    | some (o', _, _) => match s.ev x with
      | .rp l => K s (.rp (l.drop o'))
      | .cp o i off => K s (.cp o i (off + o'))
      | _ => False
    | none => False
  | .field t x f => match fldT P t f, s.ev x with
    | some (o', g, n), .agg l => o' + n ≤ l.length ∧ K s (packT g ((l.drop o').take n))
    | _, _ => False
  | .indexAddr t x i => match elT P t with
    | some (_, e, _) => match s.ev x, s.ev i with
      | .sl e' rows d, .int _ j => e = e' ∧ 0 ≤ j ∧ j < rows.length ∧ K s (.rp (rows.getD j.toNat d))
      | .os o, .int _ j => match geth s.hp o with
        | some ob => e = ob.e ∧ 0 ≤ j ∧ j < ob.rows.length ∧ K s (.cp o j.toNat 0)
        | none => False
      | _, _ => False
    | none => match arT P t, s.ev x, s.ev i with
      | some (n, _, e), .cp o r off, .int _ j => 0 ≤ j ∧ j < n ∧ K s (.cp o r (off + j.toNat * e))
      | some (n, _, e), .rp l, .int _ j => 0 ≤ j ∧ j < n ∧ K s (.rp (l.drop (j.toNat * e)))
      | _, _, _ => False
  | .index t x i => match arT P t, s.ev x, s.ev i with
    | some (n, false, 1), .agg l, .int _ j => 0 ≤ j ∧ j < n ∧ n ≤ l.length ∧ K s (l.getD j.toNat .dead)
    | some (n, true, m), .agg l, .int _ j => 0 ≤ j ∧ j < n ∧ n * m ≤ l.length ∧ K s (.agg ((l.drop (j.toNat * m)).take m))
    | none, .str b, .int _ j => lkT P t = 2 ∧ 0 ≤ j ∧ j < b.size ∧ K s (.int .u8 (b.data.getD j.toNat 0).toNat)
    | _, _, _ => False
  | .slice t x lo hi none => match lkT P t, s.ev x with
    | 2, .str b => bndW s lo hi b.size (fun l h => K s (.str (b.extract l h)))
    | 1, .sl e rows d => match elT P t with
      | some (_, e', _) => e = e' ∧ bndW s lo hi rows.length (fun l h => K s (.sl e ((rows.take h).drop l) d))
      | none => False
    | 1, .os o => match elT P t, geth s.hp o with
      | some (_, e', _), some ob => ob.e = e' ∧ ob.g = false ∧ bndW s lo hi ob.rows.length (fun l h => K ⟨s.tm, remh s.hp o, s.nx⟩ (.sl ob.e (((rdR ob.rows).take h).drop l) (rdL ob.d)))
      | _, _ => False
    | 0, .cp o 0 0 => match arT P t, geth s.hp o with
      | some (n, false, 1), some ⟨e, [row], _, true⟩ => e = n ∧ npL row = true ∧ n ≤ lim ∧ bndW s lo hi n (fun l h => K ⟨s.tm, remh s.hp o, s.nx⟩ (.sl 1 (((rdR (row.map fun c => [c])).take h).drop l) []))
      | _, _ => False
    | _, _ => False
  | .binOp op t x y _ => bin P op t (isC x) (isC y) (s.ev x) (s.ev y) (K s)
  | .unOp .not _ x => match s.ev x with
    | .tt => K s .ff
    | .ff => K s .tt
    | .bool b => K s (.bool (!b))
    | _ => False
  | .unOp .neg _ x => match s.ev x with
    | .int k n => numK k (0 - n) (K s)
    | _ => False
  | .convert src dst x => utT P src = true ∧ (match intT P dst, lkT P dst, s.ev x with
    | some k', _, .int k n => K s (.int k' (convK k k' n))
    | none, 2, .str b => K s (.str b)
    | none, 2, .sl 1 rows _ => byT P src = true ∧ rows.all isB = true ∧ K s (.str ⟨(rows.map cB).toArray⟩)
    | none, 2, .os o => (match geth s.hp o with
      | some ob => ob.e = 1 ∧ ob.g = false ∧ byT P src = true ∧ ob.rows.all isB = true ∧ K s (.str ⟨(ob.rows.map cB).toArray⟩)
      | none => False)
    | _, _, _ => False)
  | .build t parts => match zeroT P t with
    | some z => bldT P t = true ∧ bldW P s t parts.toList z (fun l => K s (.agg l))
    | none => False
  | .buildSlice t n parts => match mkT P t with
    | some (e, _, z) => Nat.beq parts.toList.length n = true ∧ n * e ≤ 16777216 ∧ rowsW s e 0 parts.toList s.hp (fun rows h => rows.length ≤ lim ∧ K ⟨s.tm, (s.nx, ⟨e, rows, z, false⟩) :: h, s.nx + 1⟩ (.os s.nx))
    | none => False
  | .makeSlice t n c => match mkT P t, s.ev n, s.ev c with
    | some (e, by_, z), .int .i64 n, .int .i64 c => 0 ≤ n ∧ n ≤ c ∧ c * by_ ≤ 140737488355328 ∧ K ⟨s.tm, (s.nx, ⟨e, List.replicate n.toNat z, z, false⟩) :: s.hp, s.nx + 1⟩ (.os s.nx)
    | _, _, _ => False
  | .makeInterface t x => ncT P t = true ∧ K s (.iface t (s.ev x))
  | .makeFunc (.func f) first caps => first.toList = [] ∧ K s (.fn f (caps.toList.map s.ev))
  | .typeAssert x _ t true => match s.ev x with
    | .iface t' v => ncT P t = true ∧ (match Nat.beq t' t with
      | true => K s (.tup [v, .tt])
      | false => match zeroA P t with
        | some z => K s (.tup [z, .ff])
        | none => False)
    | .nilif => ncT P t = true ∧ (match zeroA P t with
        | some z => K s (.tup [z, .ff])
        | none => False)
    | _ => False
  | .call c => match c.callee with
    | .builtin .len => match c.args.toList, c.argTypes.toList with
      | [x], [t] => match lkT P t, s.ev x with
        | 1, .sl _ rows _ => rows.length ≤ lim → K s (.int .i64 rows.length)
        | 1, .nils => K s (.int .i64 0)
        | 1, .os o => match geth s.hp o with
          | some ob => ob.rows.length ≤ lim → K s (.int .i64 ob.rows.length)
          | none => False
        | 2, .str b => b.size ≤ lim → K s (.int .i64 b.size)
        | _, _ => False
      | _, _ => False
    | .builtin .append => match c.args.toList, c.argTypes.toList with
      | [x, y], [t, t'] => match mkT P t, lkT P t', s.ev x with
        | some (e, by_, z), 1, .nils => srcW s e (s.ev y) s.hp (fun rows h => rows.length * by_ ≤ 140737488355328 ∧ K ⟨s.tm, (s.nx, ⟨e, rows, z, false⟩) :: h, s.nx + 1⟩ (.os s.nx))
        | some (e, by_, z), 1, .os o => match geth s.hp o with
          | some ob => ob.e = e ∧ ob.g = false ∧ srcW s e (s.ev y) (remh s.hp o) (fun rows h => (ob.rows.length + rows.length) * by_ ≤ 140737488355328 ∧
              K ⟨s.tm, (s.nx, ⟨e, ob.rows ++ rows, z, false⟩) :: h, s.nx + 1⟩ (.os s.nx))
          | none => False
        | _, _, _ => False
      | _, _ => False
    | .builtin .copy => match c.args.toList, c.argTypes.toList with
      | [x, y], [t, _] => match elT P t, s.ev x with
        | some (_, e, _), .os o => match geth s.hp o with
          | some ob => ob.e = e ∧ ob.g = false ∧ srcW s e (s.ev y) s.hp (fun rows h => geth h o = some ob ∧
              K ⟨s.tm, seth h o ⟨ob.e, rows.take ob.rows.length ++ ob.rows.drop rows.length, ob.d, false⟩, s.nx⟩ (.int .i64 (min rows.length ob.rows.length : Nat)))
          | none => False
        | _, _ => False
      | _, _ => False
    | .builtin .min => match c.args.toList with
      | [x, y] => match s.ev x, s.ev y with
        | .int k a, .int k' b => k = k' ∧ K s (.int k (min a b))
        | _, _ => False
      | _ => False
    | .builtin _ => False
    | .value f => match s.ev f with
      | .fn g caps => CallW P g ((c.args.toList.map s.ev) ++ caps) s K
      | _ => False
    | .invoke r name => match s.ev r with
      | .iface t v => ∃ f v', Meth P t name f v v' ∧ CallW P f (v' :: c.args.toList.map s.ev) s K
      | _ => False
  | .extract x i => match s.ev x with
    | .tup l => i < l.length ∧ K s (l.getD i .dead)
    | _ => False
  | _ => False
end Go.Av
