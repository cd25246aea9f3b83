/-
 norm.Of, told plainly. No program in sight.
-/
import Derived.Test.YtkkhgdmmbhpckaaGreatNms
import Derived.Test.YtkkhgdmmbhpckaaGreatPk
import Derived.Test.YtkkhgdmmbhpckaaGreatNxf
namespace Go.Proofs.YtkkhgdmmbhpckaaGreat.Ab
open Go.RowKit
def zu_ (l : List GFact) : List ByteArray := l.filterMap fun f => if f.kind = 1 then some f.a else none
def zv_ (l : List GFact) : List ByteArray := l.filterMap fun f => if f.kind = 2 then some f.a else none
def inhF (l : List GFact) : List GPair := l.filterMap fun f => if f.kind = 3 then some ⟨f.a, f.b⟩ else none
def asgF (l : List GFact) : List GPair := l.filterMap fun f => if f.kind = 4 then some ⟨f.a, f.b⟩ else none
def grF (l : List GFact) : List GGrant := l.filterMap fun f => if f.kind = 5 then some ⟨f.a, f.b, f.c⟩ else none
def ssdF (l : List GFact) : List GSod := l.filterMap fun f => if f.kind = 6 then some ⟨f.a, f.n_, f.l⟩ else none
def dsdF (l : List GFact) : List GSod := l.filterMap fun f => if f.kind = 7 then some ⟨f.a, f.n_, f.l⟩ else none
def sesF (l : List GFact) : List GSession := l.filterMap fun f => if f.kind = 8 then some ⟨f.a, f.b, f.l⟩ else none
def ofF (l : List GFact) : GRoles := ⟨zu_ l, zv_ l, inhF l, asgF l, grF l, ssdF l, dsdF l, sesF l⟩
theorem k5_ {α β : Type} (f : α → Option β) (l : List α) : (l.filterMap f).length ≤ l.length := List.length_filterMap_le ..
theorem rD_ {β : Type} {k : Int} {g : GFact → β} {x : GFact} {l : List GFact} (h : x.kind = k) : (x :: l).filterMap (fun f => if f.kind = k then some (g f) else none) = g x :: l.filterMap (fun f => if f.kind = k then some (g f) else none) := by
 rw [List.filterMap_cons, if_pos h]
theorem rE_ {β : Type} {k : Int} {g : GFact → β} {x : GFact} {l : List GFact} (h : ¬ x.kind = k) : (x :: l).filterMap (fun f => if f.kind = k then some (g f) else none) = l.filterMap (fun f => if f.kind = k then some (g f) else none) := by
 rw [List.filterMap_cons, if_neg h]
section
variable {l : List GFact}
theorem nf_ {α β : Type} {p : α → Prop} [DecidablePred p] {g : α → β} {l : List α} {y : β} : (y ∈ l.filterMap fun f => if p f then some (g f) else none) ↔ ∃ f ∈ l, p f ∧ g f = y := by
 rw [List.mem_filterMap];refine exists_congr fun f => and_congr_right fun _ => ?_;by_cases h : p f <;> simp [h]
theorem fM_ {u : GSod} : u ∈ ssdF l ↔ ∃ f ∈ l, f.kind = 6 ∧ (⟨f.a, f.n_, f.l⟩ : GSod) = u := nf_
theorem fN_ {u : GSod} : u ∈ dsdF l ↔ ∃ f ∈ l, f.kind = 7 ∧ (⟨f.a, f.n_, f.l⟩ : GSod) = u := nf_
theorem fO_ {u : GSession} : u ∈ sesF l ↔ ∃ f ∈ l, f.kind = 8 ∧ (⟨f.a, f.b, f.l⟩ : GSession) = u := nf_
end
abbrev St8 := List ByteArray × List ByteArray × List GPair × List GPair × List GGrant × List GSod × List GSod × List GSession
def cat8 (s : St8) (l : List GFact) : St8 := (s.1 ++ zu_ l, s.2.1 ++ zv_ l, s.2.2.1 ++ inhF l, s.2.2.2.1 ++ asgF l, s.2.2.2.2.1 ++ grF l, s.2.2.2.2.2.1 ++ ssdF l, s.2.2.2.2.2.2.1 ++ dsdF l, s.2.2.2.2.2.2.2 ++ sesF l)
def le8 (s : St8) (m : Nat) : Prop := s.1.length ≤ m ∧ s.2.1.length ≤ m ∧ s.2.2.1.length ≤ m ∧ s.2.2.2.1.length ≤ m ∧ s.2.2.2.2.1.length ≤ m ∧ s.2.2.2.2.2.1.length ≤ m ∧ s.2.2.2.2.2.2.1.length ≤ m ∧ s.2.2.2.2.2.2.2.length ≤ m
theorem b4_ (s : St8) (x : GFact) (l : List GFact) : cat8 s (x :: l) = cat8 (cat8 s [x]) l := by
 have h : ∀ {β : Type} (g : GFact → Option β), (x :: l).filterMap g = [x].filterMap g ++ l.filterMap g := fun g => by rw [← List.filterMap_append]; rfl
 unfold cat8 zu_ zv_ inhF asgF grF ssdF dsdF sesF;rw [h, h, h, h, h, h, h, h];simp only [List.append_assoc]
theorem one8 {β : Type} {k : Int} {g : GFact → β} {x : GFact} : [x].filterMap (fun f => if f.kind = k then some (g f) else none) = if x.kind = k then [g x] else [] := by
 by_cases h : x.kind = k <;> simp [h]
theorem nk_ {s : St8} {m : Nat} (h : le8 s m) (x : GFact) : le8 (cat8 s [x]) (m + 1) := by
 have k : ∀ {β : Type} (g : GFact → Option β), ([x].filterMap g).length ≤ 1 := fun g => List.length_filterMap_le ..;obtain ⟨h1, h2, h3, h4, h5, h6, h7, h8⟩ := h;unfold le8 cat8 zu_ zv_ inhF asgF grF ssdF dsdF sesF;simp only [List.length_append]
 exact ⟨Nat.add_le_add h1 (k _), Nat.add_le_add h2 (k _), Nat.add_le_add h3 (k _), Nat.add_le_add h4 (k _), Nat.add_le_add h5 (k _), Nat.add_le_add h6 (k _), Nat.add_le_add h7 (k _), Nat.add_le_add h8 (k _)⟩
theorem app1 {α : Type} {xs : List α} {y : α} {m : Nat} (h : xs.length ≤ m) (hm : m < 4294967296) : app xs [y] = some (xs ++ [y]) := appS (by simp; omega)
theorem p5_ {n : Nat} {t0 : List GFact} {s : St8} {m : Nat} (h : le8 s m) (hm : m < 4294967296) {x : GFact} (hx : x.l.length ≤ 4294967296) (k : St8 → Option St8) : zq_ n t0 s x k = k (cat8 s [x]) := by
 obtain ⟨s1, s2, s3, s4, s5, s6, s7, s8⟩ := s;obtain ⟨h1, h2, h3, h4, h5, h6, h7, h8⟩ := h;unfold zq_ cat8 zu_ zv_ inhF asgF grF ssdF dsdF sesF;simp only [one8];have hl : x.l.length = 0 → x.l = [] := List.eq_nil_of_length_eq_zero;by_cases k1 : x.kind = 1
 ·simp [k1, app1 h1 hm]
 by_cases k2 : x.kind = 2
 ·simp [k2, app1 h2 hm]
 by_cases k3 : x.kind = 3
 ·simp [k3, app1 h3 hm]
 by_cases k4 : x.kind = 4
 ·simp [k4, app1 h4 hm]
 by_cases k5 : x.kind = 5
 ·simp [k5, app1 h5 hm]
 by_cases k6 : x.kind = 6
 ·by_cases e : x.l.length = 0
  ·simp [k6, app1 h6 hm, hl e]
  ·have e2 : ¬ x.l = [] := fun h => e (by rw [h]; rfl)
   simp [k6, app1 h6 hm, e2, grd, hx]
 by_cases k7 : x.kind = 7
 ·by_cases e : x.l.length = 0
  ·simp [k7, app1 h7 hm, hl e]
  ·have e2 : ¬ x.l = [] := fun h => e (by rw [h]; rfl)
   simp [k7, app1 h7 hm, e2, grd, hx]
 by_cases k8 : x.kind = 8
 ·by_cases e : x.l.length = 0
  ·simp [k8, app1 h8 hm, hl e]
  ·have e2 : ¬ x.l = [] := fun h => e (by rw [h]; rfl)
   simp [k8, app1 h8 hm, e2, grd, hx]
 simp [k1, k2, k3, k4, k5, k6, k7, k8]
theorem fV_ {n : Nat} {t0 : List GFact} : ∀ (xs : List GFact) (s : St8) (m : Nat), le8 s m → m + xs.length ≤ 4294967296 → (∀ x ∈ xs, x.l.length ≤ 4294967296) → jg_ (zq_ n t0) (vd_ n t0) xs s = some (cat8 s xs)
 | [], s, m, _, _, _ => by
  obtain ⟨s1, s2, s3, s4, s5, s6, s7, s8⟩ := s;simp [jg_, vd_, cat8, zu_, zv_, inhF, asgF, grF, ssdF, dsdF, sesF]
 | x :: xs, s, m, h, hm, hx => by
  rw [List.length_cons] at hm;rw [jg_, p5_ h (by omega) (hx x (List.mem_cons_self ..)), b4_ s x xs];exact fV_ xs _ (m + 1) (nk_ h x) (by omega) fun y hy => hx y (List.mem_cons_of_mem _ hy)
theorem nl_ {m : Nat} : le8 ([], [], [], [], [], [], [], []) m := ⟨Nat.zero_le _, Nat.zero_le _, Nat.zero_le _, Nat.zero_le _, Nat.zero_le _, Nat.zero_le _, Nat.zero_le _, Nat.zero_le _⟩
theorem fW_ {n : Nat} {l : List GFact} (hn : l.length < n) (hl : l.length ≤ 100000) (hx : ∀ x ∈ l, x.l.length ≤ 4294967296) : vO_ n l = some (ofF l) := by
 unfold vO_;have hL : qL_ n l n ([], [], [], [], [], [], [], [], 0) = _ := un_ n l (by omega) n ([], [], [], [], [], [], [], []) 0 (Nat.zero_le _) (by omega);rw [hL, List.drop_zero, fV_ l _ 0 nl_ (by omega) hx];rfl
end Go.Proofs.YtkkhgdmmbhpckaaGreat.Ab
