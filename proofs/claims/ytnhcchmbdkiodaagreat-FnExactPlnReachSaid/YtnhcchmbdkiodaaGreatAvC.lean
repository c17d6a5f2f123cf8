/- Engine, part 3: the abstract state and what each operation makes of it. -/
import Derived.Test.YtnhcchmbdkiodaaGreatAvB
set_option linter.unusedVariables false
set_option linter.unusedSimpArgs false
set_option autoImplicit false
namespace Go.Av

abbrev Hp := List (Nat × Ob)
structure St where
  tm : List (Nat × AV)
  hp : Hp
  nx : Nat

def gtm : List (Nat × AV) → Nat → AV
  | [], _ => .dead
  | (n, v) :: s, m => bif Nat.beq n m then v else gtm s m
def geth : Hp → Nat → Option Ob
  | [], _ => none
  | (n, v) :: s, m => bif Nat.beq n m then some v else geth s m
def remh : Hp → Nat → Hp
  | [], _ => []
  | (n, v) :: s, m => bif Nat.beq n m then s else (n, v) :: remh s m
def seth : Hp → Nat → Ob → Hp
  | [], _, _ => []
  | (n, v) :: s, m, x => bif Nat.beq n m then (n, x) :: s else (n, v) :: seth s m x

def St.put (s : St) (d : Option Tmp) (v : AV) : St := match d with
  | some d => ⟨(d, v) :: s.tm, s.hp, s.nx⟩
  | none => s

/-- Constants. -/
def ofVal : Nat → Value → AV
  | _, .int k n => .int k n
  | _, .bool true => .tt
  | _, .bool false => .ff
  | _, .string s => .str s
  | _, .slice none 0 0 => .nils
  | _, .pointer none => .nilp
  | _, .nilFunc => .nilfn
  | _, .nilIface => .nilif
  | n + 1, .agg cs => .agg (cs.toList.map (ofVal n))
  | _, _ => .dead
/-- Each number is of its kind, no string too long. -/
def okV : Nat → Value → Bool
  | _, .int k n => decide (k.wrap n = n)
  | _, .string s => Nat.ble s.size lim
  | n + 1, .agg cs => cs.toList.all (okV n)
  | _, _ => true
def okO : Operand → Bool
  | .const v => okV 3 v
  | _ => true
def St.ev (s : St) : Operand → AV
  | .tmp t => gtm s.tm t
  | .const v => ofVal 3 v
  | .func f => .fn f []
  | .global _ => .dead

/-- A test that is not decided: both ways. -/
structure If (b : Bool) (X Y : Prop) : Prop where
  t : b = true → X
  f : b = false → Y
/-- A number of 64 bits. -/
def In64 (x : Int) : Prop := -9223372036854775808 ≤ x ∧ x ≤ 9223372036854775807

/-- The cells of a value that is known. -/
def AV.cells? : AV → Option (List AV)
  | .agg l => some l
  | .dead => none
  | .tup _ => none
  | v => some [v]
/-- It is one cell. -/
def AV.one : AV → Bool
  | .agg _ => false
  | .dead => false
  | .tup _ => false
  | _ => true

/-- A test that is known, as any other. -/
def AV.nb : AV → AV
  | .tt => .bool true
  | .ff => .bool false
  | x => x
def AV.nbV : AV → AV
  | .agg l => .agg (l.map AV.nb)
  | x => x.nb
/-! ### Types -/
def rowD : TypeDesc → Bool
  | .struct _ => true
  | .array _ _ => true
  | _ => false
/-- Whether a value of the type is an aggregate, and how many cells it has. -/
def tyT (P : Program) (t : TypeId) : Option (Bool × Nat) := match P.underlying t with
  | some d => match P.info? t with
    | some i => some (rowD d, i.size)
    | none => none
  | none => none
/-- Of a field: its offset, how many cells it has, whether they are several. -/
def fldT (P : Program) (t : TypeId) (f : Nat) : Option (Nat × Bool × Nat) := match P.underlying t with
  | some (.struct fs) => match fs[f]? with
    | some x => match tyT P x.type with
      | some (g, n) => bif Nat.beq n 0 then none else some (x.offset, g, n)
      | none => none
    | none => none
  | _ => none
/-- Of a slice type: the cells of an element, whether they are several, the bytes. -/
def elT (P : Program) (t : TypeId) : Option (Bool × Nat × Nat) := match P.underlying t with
  | some (.slice e) => match tyT P e with
    | some (g, n) => bif Nat.beq n 0 then none else some (g, n, P.bytesOf e)
    | none => none
  | _ => none
def arT (P : Program) (t : TypeId) : Option (Nat × Bool × Nat) := match P.underlying t with
  | some (.array n e) => match tyT P e with
    | some (g, k) => some (n, g, k)
    | none => none
  | _ => none
def zeroT (P : Program) (t : TypeId) : Option (List AV) := match P.info? t with
  | some i => match i.zero with
    | some v => match (ofVal 3 v).cells? with
      | some l => bif okV 3 v && l.all AV.one then some (l.map AV.nb) else none
      | none => none
    | none => none
  | none => none
/-- Kinds of whole numbers. -/
def intT (P : Program) (t : TypeId) : Option IntKind := match P.underlying t with
  | some (.int k) => some k
  | _ => none
/-- No interface. -/
def byT (P : Program) (t : TypeId) : Bool := match P.underlying t with
  | some (.slice e) => match P.underlying e with
    | some (.int .u8) => true
    | _ => false
  | _ => false
def isB : List AV → Bool
  | [.int .u8 _] => true
  | _ => false
def cB : List AV → UInt8
  | [.int .u8 n] => UInt8.ofNat n.toNat
  | _ => 0
def utT (P : Program) (t : TypeId) : Bool := (P.underlying t).isSome
def ncT (P : Program) (t : TypeId) : Bool := match P.underlying t with
  | some (.interface _) => false
  | some _ => true
  | none => false
def itT (P : Program) (t : TypeId) : Bool := match P.underlying t with
  | some (.interface _) => true
  | _ => false
/-- Of a slice type: an element's cells, its bytes, its zero. -/
def mkT (P : Program) (t : TypeId) : Option (Nat × Nat × List AV) := match P.underlying t with
  | some (.slice e) => match P.info? e with
    | some i => match i.zero with
      | some z => match (ofVal 3 z).cells? with
        | some l => bif okV 3 z && l.all AV.one && Nat.beq l.length i.size && !Nat.beq i.size 0 && !Nat.beq i.bytes 0 then some (i.size, i.bytes, l.map AV.nb) else none
        | none => none
      | none => none
    | none => none
  | _ => none
/-- Where the parts of a struct or an array lie. -/
def plT (P : Program) (t : TypeId) (i : Nat) : Option (Nat × Nat) := match P.underlying t with
  | some (.struct fs) => match fs[i]? with
    | some f => match tyT P f.type with
      | some (_, n) => some (f.offset, n)
      | none => none
    | none => none
  | some (.array _ e) => match tyT P e with
    | some (_, n) => some (i * n, n)
    | none => none
  | _ => none
/-- It is a struct or an array whose parts' types are there. -/
def bldT (P : Program) (t : TypeId) : Bool := match P.underlying t with
  | some (.struct fs) => fs.toList.all fun f => (P.info? f.type).isSome
  | some (.array _ e) => (P.info? e).isSome
  | _ => false
/-- A slice's type: 1; a string's: 2. -/
def lkT (P : Program) (t : TypeId) : Nat := match P.underlying t with
  | some (.slice _) => 1
  | some .string => 2
  | _ => 0
def zeroA (P : Program) (t : TypeId) : Option AV := match P.info? t with
  | some i => match i.zero with
    | some v => bif okV 3 v then some (ofVal 3 v).nbV else none
    | none => none
  | none => none
def packT (g : Bool) (cells : List AV) : AV := match g with
  | true => .agg cells
  | false => cells.headD .dead

/-! ### Own slices inside rows -/
def absC : Hp → List AV → List AV × Hp
  | h, [] => ([], h)
  | h, x :: l => match x with
    | .os o => match geth h o with
      | some ob => match ob.g with
        | false => ((.own ob.e ob.rows ob.d) :: (absC (remh h o) l).1, (absC (remh h o) l).2)
        | true => (x :: (absC h l).1, (absC h l).2)
      | none => (x :: (absC h l).1, (absC h l).2)
    | _ => (x :: (absC h l).1, (absC h l).2)

/-! ### Operations -/
def fitsK : IntKind → IntKind → Bool
  | .i64, .i64 => true
  | .u8, .u8 => true
  | .u8, .i64 => true
  | .u32, .u32 => true
  | .u32, .i64 => true
  | .i32, .i32 => true
  | .i32, .i64 => true
  | .u64, .u64 => true
  | .u16, .u16 => true
  | .u16, .i64 => true
  | .u8, .u32 => true
  | .u8, .u64 => true
  | .u32, .u64 => true
  | _, _ => false
def convK (k k' : IntKind) (n : Int) : Int := match fitsK k k' with
  | true => n
  | false => k'.wrap n
/-- Bits of two numbers. -/
def bitK (op : BinOp) (k : IntKind) (x y : Int) : Int := match op with
  | .and => k.wrap (BitVec.ofInt k.bits x &&& BitVec.ofInt k.bits y).toNat
  | .or => k.wrap (BitVec.ofInt k.bits x ||| BitVec.ofInt k.bits y).toNat
  | .xor => k.wrap (BitVec.ofInt k.bits x ^^^ BitVec.ofInt k.bits y).toNat
  | _ => k.wrap (BitVec.ofInt k.bits x &&& ~~~BitVec.ofInt k.bits y).toNat
def shlK (k : IntKind) (x y : Int) : Int := k.wrap (x * 2 ^ min y.toNat k.bits)
def shrK (k : IntKind) (x y : Int) : Int := x.fdiv (2 ^ min y.toNat k.bits)
/-- A sum: of 64 bits it is owed that it fits, of others it wraps. -/
def numK (k : IntKind) (x : Int) (K : AV → Prop) : Prop := match k with
  | .i64 => In64 x ∧ K (.int .i64 x)
  | k => K (.int k (k.wrap x))
def binI (op : BinOp) (k : IntKind) (x : Int) (k' : IntKind) (y : Int) (K : AV → Prop) : Prop :=
  match op with
  | .add => k = k' ∧ numK k (x + y) K
  | .sub => k = k' ∧ numK k (x - y) K
  | .mul => k = k' ∧ numK k (x * y) K
  | .quo => k = k' ∧ y ≠ 0 ∧ numK k (x.tdiv y) K
  | .rem => k = k' ∧ y ≠ 0 ∧ K (.int k (x.tmod y))
  | .and => k = k' ∧ K (.int k (bitK .and k x y))
  | .or => k = k' ∧ K (.int k (bitK .or k x y))
  | .xor => k = k' ∧ K (.int k (bitK .xor k x y))
  | .andNot => k = k' ∧ K (.int k (bitK .andNot k x y))
  | .shl => 0 ≤ y ∧ K (.int k (shlK k x y))
  | .shr => 0 ≤ y ∧ K (.int k (shrK k x y))
  | .eql => k = k' ∧ K (.bool (decide (x = y)))
  | .neq => k = k' ∧ K (.bool (!decide (x = y)))
  | .lss => k = k' ∧ K (.bool (decide (x < y)))
  | .leq => k = k' ∧ K (.bool (decide (x ≤ y)))
  | .gtr => k = k' ∧ K (.bool (decide (y < x)))
  | .geq => k = k' ∧ K (.bool (decide (y ≤ x)))
def AV.isNil : AV → Option Bool
  | .nilif => some true
  | .iface _ _ => some false
  | _ => none
def AV.isNilp : AV → Option Bool
  | .nilp => some true
  | .rp _ => some false
  | .cp _ _ _ => some false
  | _ => none
/-- Whether the type is a pointer's, an interface's. -/
def ptT (P : Program) (t : TypeId) : Bool := match P.underlying t with
  | some (.pointer _) => true
  | _ => false
def bolT (P : Program) (t : TypeId) : Bool := match P.underlying t with
  | some .bool => true
  | _ => false
def boo : AV → Option Bool
  | .tt => some true
  | .ff => some false
  | .bool b => some b
  | _ => none
def isC : Operand → Bool
  | .const _ => true
  | _ => false
/-- A struct of numbers, each in its place. -/
def flatF (P : Program) : Nat → List Field → Bool
  | _, [] => true
  | j, f :: fs => (f.name != "_") && (match intT P f.type with
    | some _ => true
    | none => false) && Nat.beq f.offset j && (match tyT P f.type with
    | some (false, 1) => true
    | _ => false) && flatF P (j + 1) fs
def flatT (P : Program) (t : TypeId) (n : Nat) : Bool := match P.underlying t with
  | some (.struct fs) => Nat.beq fs.toList.length n && !P.stoodInHeld t && !P.eqGuardType P.depth t && flatF P 0 fs.toList
  | _ => false
def eqK : List AV → List AV → (Bool → Prop) → Prop
  | [], [], K => K true
  | .int k x :: l, .int k' y :: l', K => k = k' ∧ eqK l l' (fun b => K (decide (x = y) && b))
  | _, _, _ => False
def bin (P : Program) (op : BinOp) (t : TypeId) (cx cy : Bool) (a b : AV) (K : AV → Prop) : Prop :=
  match a, b with
  | .int k x, .int k' y => binI op k x k' y K
  | .str x, .str y => match op with
    | .add => x.size + y.size ≤ lim ∧ K (.str (x ++ y))
    | .eql => K (.bool (decide (x = y)))
    | .neq => K (.bool (!decide (x = y)))
    | _ => False
  | .nilif, .nilif => itT P t = true ∧ (cx || cy) = true ∧ (match op with
    | .eql => K .tt
    | .neq => K .ff
    | _ => False)
  | .nilif, .iface _ _ => itT P t = true ∧ (match op with
    | .eql => K .ff
    | .neq => K .tt
    | _ => False)
  | .iface _ _, .nilif => itT P t = true ∧ (match op with
    | .eql => K .ff
    | .neq => K .tt
    | _ => False)
  | .agg l, .agg l' => flatT P t l.length = true ∧ (match op with
    | .eql => eqK l l' (fun b => K (.bool b))
    | .neq => eqK l l' (fun b => K (.bool (!b)))
    | _ => False)
  | a, b => match boo a, boo b with
    | some x, some y => bolT P t = true ∧ (match op with
      | .eql => K (.bool (x == y))
      | .neq => K (.bool (!(x == y)))
      | _ => False)
    | _, _ => False

/-- Store into the row i of an object, from its cell 'off' on. -/
def setRow (ob : Ob) (i off : Nat) (cells : List AV) : Ob :=
  ⟨ob.e, ob.rows.set i ((ob.rows.getD i ob.d).take off ++ cells ++ (ob.rows.getD i ob.d).drop (off + cells.length)), ob.d, ob.g⟩

/-- The same; a whole row takes the old one's place. -/
def setAll (ob : Ob) (i off : Nat) (cells : List AV) : Ob := match Nat.beq off 0 && Nat.beq cells.length ob.e with
  | true => ⟨ob.e, ob.rows.set i cells, ob.d, ob.g⟩
  | false => setRow ob i off cells
theorem setAll_eq {ob : Ob} {i off : Nat} {cells : List AV} (h : (ob.rows.getD i ob.d).length = ob.e) : setAll ob i off cells = setRow ob i off cells := by
  unfold setAll
  split
  · rename_i hb
    simp only [Bool.and_eq_true] at hb
    obtain rfl := Nat.eq_of_beq_eq_true hb.1
    have h2 := Nat.eq_of_beq_eq_true hb.2
    simp only [setRow, List.take_zero, List.nil_append, Nat.zero_add]
    rw [List.drop_of_length_le (by omega), List.append_nil]
  · rfl

mutual
/-- Nothing of one's own lies in it. -/
def AV.pu : AV → Bool
  | .own _ _ _ => false
  | .agg l => puL l
  | .tup l => puL l
  | .fn _ l => puL l
  | .iface _ x => x.pu
  | _ => true
def puL : List AV → Bool
  | [] => true
  | a :: l => a.pu && puL l
end

end Go.Av
