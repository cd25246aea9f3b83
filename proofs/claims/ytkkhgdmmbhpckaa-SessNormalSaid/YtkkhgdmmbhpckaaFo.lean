/-
 The policy of facts, told plainly. No program in sight.
-/
import Derived.Test.YtkkhgdmmbhpckaaNms
import Derived.Test.YtkkhgdmmbhpckaaPk
namespace Go.Proofs.Ytkkhgdmmbhpckaa.Ab
open Go.RowKit
def usersF (l : List GFact) : List ByteArray := l.filterMap fun f => if f.kind = 1 then some f.a else none
def rolesF (l : List GFact) : List ByteArray := l.filterMap fun f => if f.kind = 2 then some f.a else none
def inhF (l : List GFact) : List GPair := l.filterMap fun f => if f.kind = 3 then some ⟨f.a, f.b⟩ else none
def asgF (l : List GFact) : List GPair := l.filterMap fun f => if f.kind = 4 then some ⟨f.a, f.b⟩ else none
def grF (l : List GFact) : List GGrant := l.filterMap fun f => if f.kind = 5 then some ⟨f.a, f.b, f.c⟩ else none
def ssdF (l : List GFact) : List GSod := l.filterMap fun f => if f.kind = 6 then some ⟨f.a, f.n_, f.l⟩ else none
def dsdF (l : List GFact) : List GSod := l.filterMap fun f => if f.kind = 7 then some ⟨f.a, f.n_, f.l⟩ else none
def sesF (l : List GFact) : List GSession := l.filterMap fun f => if f.kind = 8 then some ⟨f.a, f.b, f.l⟩ else none
def ofF (l : List GFact) : GRoles := ⟨usersF l, rolesF l, inhF l, asgF l, grF l, ssdF l, dsdF l, sesF l⟩
theorem fm_len {α β : Type} (f : α → Option β) (l : List α) : (l.filterMap f).length ≤ l.length := List.length_filterMap_le ..
theorem fk_pos {β : Type} {k : Int} {g : GFact → β} {x : GFact} {l : List GFact} (h : x.kind = k) : (x :: l).filterMap (fun f => if f.kind = k then some (g f) else none) = g x :: l.filterMap (fun f => if f.kind = k then some (g f) else none) := by
 rw [List.filterMap_cons, if_pos h]
theorem fk_neg {β : Type} {k : Int} {g : GFact → β} {x : GFact} {l : List GFact} (h : ¬ x.kind = k) : (x :: l).filterMap (fun f => if f.kind = k then some (g f) else none) = l.filterMap (fun f => if f.kind = k then some (g f) else none) := by
 rw [List.filterMap_cons, if_neg h]
section
variable {l : List GFact}
theorem mem_if {α β : Type} {p : α → Prop} [DecidablePred p] {g : α → β} {l : List α} {y : β} : (y ∈ l.filterMap fun f => if p f then some (g f) else none) ↔ ∃ f ∈ l, p f ∧ g f = y := by
 rw [List.mem_filterMap]
 refine exists_congr fun f => and_congr_right fun _ => ?_
 by_cases h : p f <;> simp [h]
theorem mem_usersF {u : ByteArray} : u ∈ usersF l ↔ ∃ f ∈ l, f.kind = 1 ∧ f.a = u := mem_if
theorem mem_rolesF {u : ByteArray} : u ∈ rolesF l ↔ ∃ f ∈ l, f.kind = 2 ∧ f.a = u := mem_if
theorem mem_inhF {u : GPair} : u ∈ inhF l ↔ ∃ f ∈ l, f.kind = 3 ∧ (⟨f.a, f.b⟩ : GPair) = u := mem_if
theorem mem_asgF {u : GPair} : u ∈ asgF l ↔ ∃ f ∈ l, f.kind = 4 ∧ (⟨f.a, f.b⟩ : GPair) = u := mem_if
theorem mem_grF {u : GGrant} : u ∈ grF l ↔ ∃ f ∈ l, f.kind = 5 ∧ (⟨f.a, f.b, f.c⟩ : GGrant) = u := mem_if
theorem mem_ssdF {u : GSod} : u ∈ ssdF l ↔ ∃ f ∈ l, f.kind = 6 ∧ (⟨f.a, f.n_, f.l⟩ : GSod) = u := mem_if
theorem mem_dsdF {u : GSod} : u ∈ dsdF l ↔ ∃ f ∈ l, f.kind = 7 ∧ (⟨f.a, f.n_, f.l⟩ : GSod) = u := mem_if
theorem mem_sesF {u : GSession} : u ∈ sesF l ↔ ∃ f ∈ l, f.kind = 8 ∧ (⟨f.a, f.b, f.l⟩ : GSession) = u := mem_if
end
end Go.Proofs.Ytkkhgdmmbhpckaa.Ab
