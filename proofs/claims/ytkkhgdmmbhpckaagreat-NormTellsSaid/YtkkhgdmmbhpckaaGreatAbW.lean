/-
 What one has made, told as data where ways meet.
-/
import Derived.Test.YtkkhgdmmbhpckaaGreatAbU
namespace Go.Proofs.YtkkhgdmmbhpckaaGreat.Ab
open Go.RowKit
section
variable {hp hp' : Hp}
end
theorem fJ_ {β : Type} {ρ : Nat → Option Nat} {kv : β → Value × AV} (h : ∀ v, renA ρ (kv v).2 = some (kv v).2) : ∀ es : List β, renM ρ (es.map kv) = some (es.map kv)
 | [] => rfl
 | p :: r => by
  have e : kv p = ((kv p).1, (kv p).2) := rfl;rw [List.map_cons, e, renM, h p, fJ_ h r]
theorem vA_ {K V : Type} {ρ : Nat → Option Nat} {kv : K → Value} {ev : V → AV} (h : ∀ v, renA ρ (ev v) = some (ev v)) (m : List (K × V)) (dl : Bool) : renO ρ (.mo (encM kv ev m) dl) = some (.mo (encM kv ev m) dl) := by
 show Option.map _ (renM ρ (List.map (fun p => (kv p.1, ev p.2)) m)) = _;rw [fJ_ (fun p => h p.2)];rfl
theorem gR_ {α : Type} {xs ys : List α} {lo : Nat} (f : α → List D) (h : ys = List.drop lo xs) : List.take ys.length (List.drop lo (List.map f xs)) = List.map f ys := by
 rw [h, ← List.map_drop, show (List.drop lo xs).length = (List.map f (List.drop lo xs)).length from (List.length_map _).symm, List.take_length]
theorem p0_ {α : Type} {xs ys : List α} {lo hi : Nat} (f : α → List D) (h : ys = List.drop lo (List.take hi xs)) : List.take ys.length (List.drop lo (List.map f xs)) = List.map f ys := by
 rw [h, List.drop_take, ← List.map_drop, List.length_take, List.map_take];conv => rhs; rw [List.take_eq_take_min]
 rw [List.length_map]
theorem p1_ {α : Type} {xs ys : List α} {hi : Nat} (f : α → List D) (h : ys = List.drop 0 (List.take hi xs)) : List.take ys.length (List.map f xs) = List.map f ys := by
 have := p0_ f h;rwa [List.drop_zero] at this
end Go.Proofs.YtkkhgdmmbhpckaaGreat.Ab
