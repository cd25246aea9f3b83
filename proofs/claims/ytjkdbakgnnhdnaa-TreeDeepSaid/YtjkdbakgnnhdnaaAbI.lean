/-
 Loops over what stands.
-/
import Derived.Test.YtjkdbakgnnhdnaaAbH
namespace Go.Proofs.Ytjkdbakgnnhdnaa.Ab
section
open Go.RowKit
def forget : List (Nat × Nat) → Fr → Fr
 | [], fr => fr
 | p :: r, fr => fun t => if p.1 ≤ t ∧ t ≤ p.2 then .un else forget r fr t
theorem forget_at (p : Nat × Nat) (r : List (Nat × Nat)) (fr : Fr) (t : Nat) : forget (p :: r) fr t = if p.1 ≤ t ∧ t ≤ p.2 then .un else forget r fr t := rfl
theorem forget_nil (fr : Fr) : forget [] fr = fr := rfl
def cutH (N : Nat) : List Nat → Hp → Hp
 | [], hp => fun t => if N ≤ t then none else hp t
 | k :: M, hp => fun t => if t = k then none else cutH N M hp t
theorem cutH_nil (N : Nat) (hp : Hp) (t : Nat) : cutH N [] hp t = if N ≤ t then none else hp t := rfl
theorem cutH_cons (N k : Nat) (M : List Nat) (hp : Hp) (t : Nat) : cutH N (k :: M) hp t = if t = k then none else cutH N M hp t := rfl
section
variable {P : Program} {tab : Nat → TI} {k : List It} {Q : Ex → St → Prop} {a : Code}
end
attribute [go_sem] forget_at forget_nil cutH_nil cutH_cons
section
variable {P : Program} {tab : Nat → TI} {ops : Array Oper} {nx0 nx i j d : Nat} {k : List It} {Q : Ex → St → Prop} {r : List Oper} {s : St} {dst : Option Nat} {acc : List Rec} {fr : Fr} {hp : Hp} {op : Op} {T : TypeId} {pos : String} {after : Array Edge} {t c : Bool}
end
theorem wrap_nat {n : Nat} (h : n < 9223372036854775808) : IntKind.i64.wrap (n : Int) = n := IntWalk.i64_in _ (by omega)
theorem wrap_one {a : Nat} (h : a + 1 < 9223372036854775808) : IntKind.i64.wrap ((a : Int) + 1) = ((a + 1 : Nat) : Int) := by rw [IntWalk.i64_in _ (by omega)]; omega
theorem dec_lt {a b : Nat} (h : a < b) : decide ((a : Int) < (b : Int)) = true := by simp; omega
theorem dec_nlt {a b : Nat} (h : b ≤ a) : decide ((a : Int) < (b : Int)) = false := by simp; omega
end
section
open Go.RowKit
def accV (id ver : Nat) : List (List D) → AV
 | [] => .v (.slice none 0 0)
 | _ :: r => .so id ver 0 (r.length + 1)
def accO (sz ver : Nat) (br : Bool) : List (List D) → Option AO
 | [] => none
 | e :: r => some (.rw (e :: r) sz ver br false)
def accI (nid id : Nat) : List (List D) → Nat
 | [] => nid
 | _ :: _ => id
def accN (ver : Nat) : List (List D) → Nat
 | [] => 0
 | _ :: _ => ver + 1
theorem accV_nil (id ver : Nat) : accV id ver [] = .v (.slice none 0 0) := rfl
theorem accO_nil (sz ver : Nat) (br : Bool) : accO sz ver br [] = none := rfl
section
variable {tab : Nat → TI} {ρ : Operand → AV} {hp : Hp} {nid id ver T sz : Nat} {x y : Operand} {es : List (List D)} {e : List D} {b : Bool} {is : List Nat}
theorem acc_isVal : isVal (accV id ver es) = true := by cases es <;> rfl
theorem acc_isCell : isCell (accV id ver es) = true := by cases es <;> rfl
theorem acc_cells : cellsA (accV id ver es) = some [accV id ver es] := by cases es <;> rfl
end
theorem accV_cons (id ver : Nat) (e : List D) (r : List (List D)) : accV id ver (e :: r) = .so id ver 0 (r.length + 1) := rfl
theorem accO_cons (sz ver : Nat) (br : Bool) (e : List D) (r : List (List D)) : accO sz ver br (e :: r) = some (.rw (e :: r) sz ver br false) := rfl
theorem take_map {α β : Type} (f : α → β) (r : List α) : (r.map f).take r.length = r.map f := List.take_of_length_le (by simp)
attribute [go_sem] accV_cons accO_cons take_map
attribute [go_sem] accV_nil accO_nil acc_isVal acc_isCell acc_cells
def an (n m : Int) : Nat := (BitVec.ofInt 64 n &&& BitVec.ofInt 64 m).toNat
theorem an_le (n m : Int) : an n m ≤ (BitVec.ofInt 64 m).toNat := by
 unfold an
 rw [BitVec.toNat_and]
 exact Nat.and_le_right
theorem wrap_an (n m : Int) (h : (BitVec.ofInt 64 m).toNat < 9223372036854775808) : IntKind.i64.wrap (an n m : Int) = (an n m : Int) := by
 have := an_le n m
 exact wrap_nat (show an n m < _ by omega)
def sh (n : Int) (k : Nat) : Int := n.fdiv (2 ^ (min k 64))
@[go_sem ↓ high] theorem intV_and (a b : Int) : intV .and .i64 a b = some (.int .i64 (IntKind.i64.wrap (an a b : Int))) := rfl
attribute [go_sem] Int.toNat_natCast
end
end Go.Proofs.Ytjkdbakgnnhdnaa.Ab
