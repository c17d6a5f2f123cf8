/- Engine, part 5a: values that say less; other names for objects. -/
import Derived.Test.YtnhcchmbdkiodaaGreatAvE
set_option linter.unusedVariables false
set_option linter.unusedSimpArgs false
set_option autoImplicit false
namespace Go.Av

mutual
/-- The first reads as the second too. -/
def sub : AV → AV → Prop
  | .int k n, .int k' n' => k = k' ∧ n = n'
  | .str x, .str y => x = y
  | .bool x, .bool y => x = y
  | .tt, .bool y => y = true
  | .ff, .bool y => y = false
  | .nils, .own _ rows _ => rows = []
  | .nils, .sl _ rows _ => rows = []
  | .own e rows _, .own e' rows' _ => e = e' ∧ rows = rows'
  | .sl e rows _, .sl e' rows' _ => e = e' ∧ rows = rows'
  | .agg l, .agg l' => subL l l'
  | .tup l, .tup l' => subL l l'
  | .iface t x, .iface t' y => t = t' ∧ sub x y
  | .fn f l, .fn g l' => f = g ∧ subL l l'
  | .os _, .dead => True
  | x, y => x = y
def subL : List AV → List AV → Prop
  | [], [] => True
  | x :: l, y :: l' => sub x y ∧ subL l l'
  | _, _ => False
end
abbrev Ren := List (Nat × Option Nat)
def lkR : Ren → Nat → Option (Option Nat)
  | [], _ => none
  | (n, x) :: r, m => bif Nat.beq n m then some x else lkR r m
mutual
/-- New names to old ones; an object without a old name is an empty slice. -/
def ren (ρ : Ren) : AV → AV
  | .os o => match lkR ρ o with
    | none => .os o
    | some none => .nils
    | some (some x) => .os x
  | .cp o i off => match lkR ρ o with
    | none => .cp o i off
    | some none => .dead
    | some (some x) => .cp x i off
  | .agg l => .agg (renL ρ l)
  | .tup l => .tup (renL ρ l)
  | .fn f l => .fn f (renL ρ l)
  | .iface t x => .iface t (ren ρ x)
  | x => x
def renL (ρ : Ren) : List AV → List AV
  | [] => []
  | x :: l => ren ρ x :: renL ρ l
end
mutual
/-- The new names in it are all below. -/
def nbl (ρ : Ren) (N : Nat) : AV → Prop
  | .os o => o < N
  | .cp o _ _ => o < N ∧ (match lkR ρ o with
    | some none => False
    | _ => True)
  | .agg l => nblL ρ N l
  | .tup l => nblL ρ N l
  | .fn _ l => nblL ρ N l
  | .iface _ x => nbl ρ N x
  | _ => True
def nblL (ρ : Ren) (N : Nat) : List AV → Prop
  | [] => True
  | x :: l => nbl ρ N x ∧ nblL ρ N l
end
/-- Rows that may name objects. -/
def leR (ρ : Ren) (N : Nat) : List (List AV) → List (List AV) → Prop
  | [], [] => True
  | r :: l, r' :: l' => nblL ρ N r' ∧ subL r (renL ρ r') ∧ leR ρ N l l'
  | _, _ => False
def leO (ρ : Ren) (N : Nat) (h : Hp) (o : Nat) (ob' : Ob) (K : Hp → Prop) : Prop := match geth h o with
  | some ob => ob.e = ob'.e ∧ (match ob.g, ob'.g with
    | true, true => leR ρ N ob.rows ob'.rows
    | true, false => False
    | false, _ => ob.rows = ob'.rows) ∧ K (remh h o)
  | none => False
def leH (ρ : Ren) (N : Nat) : Hp → Hp → Prop
  | _, [] => True
  | h, (o', ob') :: l => o' < N ∧ match lkR ρ o' with
    | some none => ob'.rows = [] ∧ leH ρ N h l
    | some (some o) => leO ρ N h o ob' (fun h => leH ρ N h l)
    | none => leO ρ N h o' ob' (fun h => leH ρ N h l)
/-- What is left of the heap. -/
def takeH (ρ : Ren) : Hp → Hp → Hp
  | h, [] => h
  | h, (o', _) :: l => match lkR ρ o' with
    | some none => takeH ρ h l
    | some (some o) => takeH ρ (remh h o) l
    | none => takeH ρ (remh h o') l
mutual
/-- Names put on anew. -/
def mapN (σ : Nat → Nat) : AV → AV
  | .os o => .os (σ o)
  | .cp o i off => .cp (σ o) i off
  | .agg l => .agg (mapNL σ l)
  | .tup l => .tup (mapNL σ l)
  | .fn f l => .fn f (mapNL σ l)
  | .iface t x => .iface t (mapN σ x)
  | x => x
def mapNL (σ : Nat → Nat) : List AV → List AV
  | [] => []
  | x :: l => mapN σ x :: mapNL σ l
end
mutual
def blw (N : Nat) : AV → Prop
  | .os o => o < N
  | .cp o _ _ => o < N
  | .agg l => blwL N l
  | .tup l => blwL N l
  | .fn _ l => blwL N l
  | .iface _ x => blw N x
  | _ => True
def blwL (N : Nat) : List AV → Prop
  | [] => True
  | x :: l => blw N x ∧ blwL N l
end
def mapNR (σ : Nat → Nat) : List (List AV) → List (List AV)
  | [] => []
  | r :: l => mapNL σ r :: mapNR σ l
def blwR (N : Nat) : List (List AV) → Prop
  | [] => True
  | r :: l => blwL N r ∧ blwR N l
def mapO (σ : Nat → Nat) (ob : Ob) : Ob := match ob.g with
  | true => ⟨ob.e, mapNR σ ob.rows, ob.d, true⟩
  | false => ob
def mapH (σ : Nat → Nat) : Hp → Hp
  | [] => []
  | (o, ob) :: l => (σ o, mapO σ ob) :: mapH σ l
def blwH (N : Nat) : Hp → Prop
  | [] => True
  | (o, ob) :: l => o < N ∧ (match ob.g with
    | true => blwR N ob.rows
    | false => True) ∧ blwH N l
/-- A lent object's old name; a new object's next one. -/
def sg (ρ : Ren) (nx n : Nat) (o : Nat) : Nat := match lkR ρ o with
  | some (some x) => x
  | _ => nx + (o - n)
def fullR (ρ : Ren) (nx : Nat) : Nat → Prop
  | 0 => True
  | n + 1 => (match lkR ρ n with
    | some (some o) => o < nx
    | _ => False) ∧ fullR ρ nx n
def keysR (n : Nat) : Ren → Prop
  | [] => True
  | (o, _) :: r => o < n ∧ keysR n r
end Go.Av
