/-
 Whether the subject is in what a step names.
-/
import Derived.Test.YtjkdbakgnnhdnaaGreatSk2
import Derived.Test.YtjkdbakgnnhdnaaGreatSda
namespace Go.Proofs.YtjkdbakgnnhdnaaGreat.Ab
open Go.RowKit
abbrev NodesAt (hp : Hp) (es : List (Value × AV)) (is : GRef → Bool) (l : List GRef) : Prop := ∀ r ∈ l, ∃ id rk dp ab, NodeAt es r id ∧ hp id = some (.bx [rk, dp, ab, .v (.bool (is r))])
theorem ne_new1 {hp : Hp} {nx i : Nat} {o : AO} (hf : ∀ j, nx ≤ j → hp j = none) (h : hp i = some o) : (i = nx + 1) = False := eq_false fun e => by
 have := lt_new hf h
 omega
theorem less_two {hp : Hp} {nx : Nat} {x y : Option AO} (hf : ∀ j, nx ≤ j → hp j = none) : Less hp (upd (nx + 1) x (upd nx y hp)) := ⟨fun i => by
 by_cases h : i < nx
 ·exact .inr (by simp [upd, show i ≠ nx by omega, show i ≠ nx + 1 by omega])
 ·exact .inl (hf i (by omega))⟩
end Go.Proofs.YtjkdbakgnnhdnaaGreat.Ab
