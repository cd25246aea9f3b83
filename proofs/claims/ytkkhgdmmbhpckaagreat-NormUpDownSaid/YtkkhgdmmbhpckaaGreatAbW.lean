/-
 What one has made, told as data where ways meet.
-/
import Derived.Test.YtkkhgdmmbhpckaaGreatAbV
namespace Go.Proofs.YtkkhgdmmbhpckaaGreat.Ab
open Go.RowKit
section
variable {hp hp' : Hp}
end
theorem renM_map {β : Type} {ρ : Nat → Option Nat} {kv : β → Value × AV} (h : ∀ v, renA ρ (kv v).2 = some (kv v).2) : ∀ es : List β, renM ρ (es.map kv) = some (es.map kv)
 | [] => rfl
 | p :: r => by
  have e : kv p = ((kv p).1, (kv p).2) := rfl
  rw [List.map_cons, e, renM, h p, renM_map h r]
theorem renO_encM {K V : Type} {ρ : Nat → Option Nat} {kv : K → Value} {ev : V → AV} (h : ∀ v, renA ρ (ev v) = some (ev v)) (m : List (K × V)) (dl : Bool) : renO ρ (.mo (encM kv ev m) dl) = some (.mo (encM kv ev m) dl) := by
 show Option.map _ (renM ρ (List.map (fun p => (kv p.1, ev p.2)) m)) = _
 rw [renM_map (fun p => h p.2)]
 rfl
end Go.Proofs.YtkkhgdmmbhpckaaGreat.Ab
