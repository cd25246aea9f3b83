/-
 Who may what: the walk through the directories is what the program passes. No program in sight.
-/
import Derived.Test.YtgmhbmcdlkajdaaGreatDoorMyx
import Derived.Test.YtgmhbmcdlkajdaaGreatDoorPwa
namespace Go.Proofs.YtgmhbmcdlkajdaaGreatDoor.Ab
open Go.RowKit
/-- A text of any kind has a parent, a shorter one or none. -/
theorem parent_any {s : ByteArray} (hs : s.size ≤ 1000) : ref17_Parent NF s = some (parentT s) ∧ ((parentT s).size = 0 ∨ (parentT s).size < s.size) := by
 cases hp : pathL s.data.toList with
 | true =>
  refine ⟨parent_ok hp, ?_⟩
  rcases parent_cases hp with ⟨_, h⟩ | ⟨_, _, _, h⟩
  ·rw [h]; exact .inl rfl
  ·exact .inr h
 | false =>
  have e : ref17_Parent NF s = some { data := #[] } := by
   unfold ref17_Parent
   rw [path_some (n := NF) (s := s) (by omega) (show _ < 30000 by omega), hp]
   rfl
  have e2 : parentT s = { data := #[] } := by
   unfold parentT
   rw [e]
   rfl
  rw [e2]
  exact ⟨e, .inl rfl⟩
theorem way_loop {l : List GFile} {u : ByteArray} (hg : GoodL l) (hl : l.length ≤ 20000) : ∀ (m : Nat) (q : ByteArray) (d : Nat) (b : Bool), q.size ≤ 1000 → q.size < m → q.size < d → law20_PermWay_L1 NF l u d (b, q) = some (b && passB l u m q)
 | 0, _, _, _, _, h, _ => by omega
 | m + 1, q, d, b, hq, hm, hd => by
  obtain ⟨d, rfl⟩ : ∃ e, d = e + 1 := ⟨d - 1, by omega⟩
  obtain ⟨y1, y2⟩ := parent_any hq
  rw [law20_PermWay_L1, emptyB]
  unfold passB
  by_cases h : q.size = 0
  ·rw [decide_eq_true h, if_pos rfl, Bool.true_or, Bool.and_true]
  ·rw [decide_eq_false h, if_neg (by decide), (can_both hg hl u q 1).1, y1, Option.bind_some, Option.bind_some, Option.bind_some, Bool.false_or, ← Bool.and_assoc]
   have ih : ∀ b, law20_PermWay_L1 NF l u d (b, parentT q) = some (b && passB l u m (parentT q)) := fun b => by
    rcases y2 with z | z
    ·exact way_loop hg hl m (parentT q) d b (by omega) (by omega) (by omega)
    ·exact way_loop hg hl m (parentT q) d b (by omega) (by omega) (by omega)
   rw [ih, ih]
   cases b with
   | true => rw [if_pos rfl, Bool.true_and]
   | false => simp only [Bool.false_and, Bool.false_eq_true, if_false]
theorem law_permWay (t0 : List Int) (t1 : Int) : law20_PermWay NF t0 t1 = some true := by
 obtain ⟨l, hv, hg, hl⟩ := valid18 t0
 obtain ⟨u, hu, _⟩ := who_tot NF t1
 obtain ⟨p, hp, hq⟩ := where_tot NF (sh t1 8)
 obtain ⟨b, hb, _⟩ := tot_tm (xs := ([1, 2, 4] : List Int)) (m := 3) (t := sh t1 16) (Q := fun _ => True) (by decide) rfl fun _ _ => trivial
 have hz := pathL_size hq
 have hs : (parentT p).size ≤ 200 := by rcases (parent_any (s := p) (by omega)).2 with z | z <;> omega
 have hw : law20_PermWay_L1 NF l u NF (true, parentT p) = some (passB l u 1000 (parentT p)) := by
  rw [way_loop hg (by omega) 1000 (parentT p) NF true (by omega) (by omega) (show _ < 30000 by omega), Bool.true_and]
 unfold law20_PermWay
 rw [hv, Option.bind_some, hu, Option.bind_some, hp, Option.bind_some, show (3 : Int) = ((3 : Nat) : Int) from rfl, hb, Option.bind_some, parent_ok hq, Option.bind_some, hw, Option.bind_some, (may_both hg (by omega) u p b).1, (can_both hg (by omega) u p b).1, Option.bind_some, Option.bind_some]
 unfold mayB
 cases passB l u 1000 (parentT p) <;> cases canB l u p b <;> rfl
theorem law_permWay_ex (t0 : List Int) (t1 : Int) (_ : t0.length ≤ maxLen ∧ ∀ y ∈ t0, (Lit.int .i64 y).wf = true) (_ : (Lit.int .i64 t1).wf = true) : ∃ n, law20_PermWay n t0 t1 = some true := ⟨NF, law_permWay t0 t1⟩
end Go.Proofs.YtgmhbmcdlkajdaaGreatDoor.Ab
