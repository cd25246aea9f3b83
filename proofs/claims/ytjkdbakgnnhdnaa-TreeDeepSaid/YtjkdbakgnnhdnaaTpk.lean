/-
 tree.Has, as one of the functions that are read off the code.
-/
import Derived.Test.YtjkdbakgnnhdnaaThd
import Derived.Test.YtjkdbakgnnhdnaaSgs
namespace Go.Proofs.Ytjkdbakgnnhdnaa.Ab
open Go.Shelf Go.RowKit _root_.Go.Proofs.Ytjkdbakgnnhdnaa.Tr
def toS3 (s : GSub) : S3 := ⟨s.type_, s.id_, s.rel⟩
mutual
def hasO (s : GSub) : GNode → Option Bool
 | ⟨k, _, subs, kids⟩ => if subs.length ≤ 9223372036854775807 ∧ kids.length ≤ 9223372036854775807 then (hasOs s kids).bind fun bs => some (hasK k (decide (toS3 s ∈ subs.map toS3)) bs) else none
def hasOs (s : GSub) : List GNode → Option (List Bool)
 | [] => some []
 | x :: xs => (hasO s x).bind fun b => (hasOs s xs).bind fun bs => some (b :: bs)
end
theorem hasOs_get {s : GSub} : ∀ {l : List GNode} {bs : List Bool}, hasOs s l = some bs → bs.length = l.length ∧ ∀ k (h : k < l.length) (h2 : k < bs.length), hasO s l[k] = some bs[k] := by
 intro l
 induction l with
 | nil =>
  intro bs h
  rw [hasOs] at h
  obtain rfl := Option.some.inj h
  exact ⟨rfl, fun k h => absurd h (Nat.not_lt_zero _)⟩
 | cons x xs ih =>
  intro bs h
  rw [hasOs] at h
  obtain ⟨b, hb, h⟩ := Option.bind_eq_some_iff.1 h
  obtain ⟨bs2, hbs, h⟩ := Option.bind_eq_some_iff.1 h
  obtain rfl := Option.some.inj h
  obtain ⟨h1, h2⟩ := ih hbs
  refine ⟨congrArg (· + 1) h1, fun k hk hk2 => ?_⟩
  cases k with
  | zero => exact hb
  | succ k => exact h2 k (Nat.lt_of_succ_lt_succ hk) (Nat.lt_of_succ_lt_succ hk2)
structure NR (w : World) (I : Nat → Prop) (x : GNode) (u : N6) : Prop where
 kind : u.kind = x.kind
 subs : RC w I (.sl (x.subs.map eGSub)) u.subs
 kids : RC w I (.sl (x.kids.map eGNode)) u.kids
theorem subs_at {w : World} {I : Nat → Prop} {l : List GSub} {v : Value} (hI : ∀ k, I k → k < w.heap.size) (h : RC w I (.sl (l.map eGSub)) v) : SubsAt w v (l.map toS3) := by
 generalize he : (D.sl (l.map eGSub)) = d at h
 cases h with
 | nl a c =>
  have : l = [] := by
   cases l with
   | nil => rfl
   | cons x xs => cases he
  subst this
  exact .inl ⟨rfl, a, c, rfl⟩
 | sl es b o c sz us h1 h2 h3 h4 h5 =>
  cases he
  by_cases h0 : l = []
  ·subst h0
   exact .inl ⟨rfl, _, _, rfl⟩
  ·refine .inr ⟨b, o, c, by rw [List.length_map, List.length_map], ⟨hI b h1, ?_, ?_, ?_⟩⟩
   all_goals
    intro k hk
    rw [List.length_map] at hk
    have e : (l.map eGSub)[k]? = some (eGSub l[k]) := by rw [List.getElem?_map, List.getElem?_eq_getElem hk]; rfl
    have z := h3 k _ e
    obtain rfl : 3 = sz := z
    rw [List.getElem_map]
   ·have g := h4 k 0 _ _ e rfl
    have r := h5 k 0 _ _ e rfl
    generalize us k 0 = q at g r
    cases r
    exact g
   ·have g := h4 k 1 _ _ e rfl
    have r := h5 k 1 _ _ e rfl
    generalize us k 1 = q at g r
    cases r
    exact g
   ·have g := h4 k 2 _ _ e rfl
    have r := h5 k 2 _ _ e rfl
    generalize us k 2 = q at g r
    cases r
    exact g
 | _ => cases he
theorem sl_is {w : World} {I : Nat → Prop} {es : List (List D)} {v : Value} (h : RC w I (.sl es) v) : isSl v := by
 cases h with
 | nl a c => exact ⟨_, _, _, rfl⟩
 | sl _ b o c sz us h1 h2 h3 h4 h5 => exact ⟨_, _, _, rfl⟩
theorem kids_at {w : World} {I : Nat → Prop} {l : List GNode} {v : Value} (hI : ∀ k, I k → k < w.heap.size) (h : RC w I (.sl (l.map eGNode)) v) : ∃ us : List N6, us.length = l.length ∧ KidsAt w v us ∧ ∀ k (h1 : k < l.length) (h2 : k < us.length), NR w I l[k] us[k] := by
 generalize he : (D.sl (l.map eGNode)) = d at h
 cases h with
 | nl a c =>
  have : l = [] := by
   cases l with
   | nil => rfl
   | cons x xs => cases he
  subst this
  exact ⟨[], rfl, .inl ⟨rfl, a, c, rfl⟩, fun k h => absurd h (Nat.not_lt_zero _)⟩
 | sl es b o c sz us h1 h2 h3 h4 h5 =>
  cases he
  by_cases h0 : l = []
  ·subst h0
   exact ⟨[], rfl, .inl ⟨rfl, _, _, rfl⟩, fun k h => absurd h (Nat.not_lt_zero _)⟩
  ·have e : ∀ k (hk : k < l.length), (l.map eGNode)[k]? = some [D.v (.int .i64 l[k].kind), D.v (.string l[k].ref.obj.type_), D.v (.string l[k].ref.obj.id_), D.v (.string l[k].ref.rel), D.sl (List.map eGSub l[k].subs), D.sl (List.map eGNode l[k].kids)] := fun k hk => by
    rw [List.getElem?_map, List.getElem?_eq_getElem hk, Option.map_some, eGNode_eq]
   have z : 6 = sz := by
    have hk : 0 < l.length := List.length_pos_iff.2 h0
    exact h3 0 _ (e 0 hk)
   subst z
   have q : ∀ k (hk : k < (List.mapIdx (fun i y => (⟨y.kind, y.ref.obj.type_, y.ref.obj.id_, y.ref.rel, us i 4, us i 5⟩ : N6)) l).length), k < l.length := fun k hk => by rwa [List.length_mapIdx] at hk
   refine ⟨l.mapIdx fun i y => ⟨y.kind, y.ref.obj.type_, y.ref.obj.id_, y.ref.rel, us i 4, us i 5⟩, List.length_mapIdx, .inr ⟨b, o, c, by rw [List.length_map, List.length_mapIdx], ⟨hI b h1, ?_, ?_, ?_, ?_, ?_, ?_⟩⟩, fun k hk hk2 => ?_⟩
   all_goals try intro k hk
   ·have g := h4 k 0 _ _ (e k (q k hk)) rfl
    have r := h5 k 0 _ _ (e k (q k hk)) rfl
    rw [List.getElem_mapIdx]
    generalize us k 0 = x at g r
    cases r
    exact g
   ·have g := h4 k 1 _ _ (e k (q k hk)) rfl
    have r := h5 k 1 _ _ (e k (q k hk)) rfl
    rw [List.getElem_mapIdx]
    generalize us k 1 = x at g r
    cases r
    exact g
   ·have g := h4 k 2 _ _ (e k (q k hk)) rfl
    have r := h5 k 2 _ _ (e k (q k hk)) rfl
    rw [List.getElem_mapIdx]
    generalize us k 2 = x at g r
    cases r
    exact g
   ·have g := h4 k 3 _ _ (e k (q k hk)) rfl
    have r := h5 k 3 _ _ (e k (q k hk)) rfl
    rw [List.getElem_mapIdx]
    generalize us k 3 = x at g r
    cases r
    exact g
   ·rw [List.getElem_mapIdx]
    exact h4 k 4 _ _ (e k (q k hk)) rfl
   ·rw [List.getElem_mapIdx]
    exact h4 k 5 _ _ (e k (q k hk)) rfl
   ·rw [List.getElem_mapIdx]
    exact ⟨rfl, h5 k 4 _ _ (e k hk) rfl, h5 k 5 _ _ (e k hk) rfl⟩
 | _ => cases he
theorem has_at {s : GSub} : ∀ {x : GNode} {r : Bool}, hasO s x = some r → ∀ {w : World} {I : Nat → Prop} {u : N6}, (∀ k, I k → k < w.heap.size) → NR w I x u → HasAt w (toS3 s) u r := by
 intro x
 refine GNode.rec (motive_1 := fun x => ∀ {r : Bool}, hasO s x = some r → ∀ {w : World} {I : Nat → Prop} {u : N6}, (∀ k, I k → k < w.heap.size) → NR w I x u → HasAt w (toS3 s) u r) (motive_2 := fun l => ∀ k (hk : k < l.length), ∀ {r : Bool}, hasO s l[k] = some r → ∀ {w : World} {I : Nat → Prop} {u : N6}, (∀ k, I k → k < w.heap.size) → NR w I l[k] u → HasAt w (toS3 s) u r) ?_ ?_ ?_ x
 ·intro k f subs kids ih r H w I u hI hN
  rw [hasO] at H
  by_cases hb : subs.length ≤ 9223372036854775807 ∧ kids.length ≤ 9223372036854775807
  ·rw [if_pos hb] at H
   obtain ⟨bs, h1, H⟩ := Option.bind_eq_some_iff.1 H
   obtain rfl := Option.some.inj H
   obtain ⟨hl, hg⟩ := hasOs_get h1
   obtain ⟨us, hu, hK, hU⟩ := kids_at hI hN.kids
   have hS := subs_at hI hN.subs
   intro w1 hw1
   have hk : u.kind = k := hN.kind
   have hj1 : ∀ {j : Nat}, j < us.length → j < kids.length := fun h => by rwa [hu] at h
   have hj2 : ∀ {j : Nat}, j < us.length → j < bs.length := fun h => by rw [hl]; exact hj1 h
   have := has_calls (w := w1) (u := u) (x := toS3 s) (l := us) (qs := bs) (subs := subs.map toS3) (hS.keep hw1) (by rw [List.length_map]; exact hb.1) (hK.keep hw1) (by rw [hu]; exact hb.2) (by rw [hl, hu]) (fun j hj => ⟨sl_is (hU j (hj1 hj) hj).subs, sl_is (hU j (hj1 hj) hj).kids⟩) (fun j hj => (ih j (hj1 hj) (hg j (hj1 hj) (hj2 hj)) hI (hU j (hj1 hj) hj)).keep hw1)
   rw [hk] at this
   exact this
  ·rw [if_neg hb] at H
   cases H
 ·intro k hk
  exact absurd hk (Nat.not_lt_zero _)
 ·intro y ys h1 h2 k hk
  cases k with
  | zero => exact h1
  | succ k => exact h2 k (Nat.lt_of_succ_lt_succ hk)
def tree_Has (_ : Nat) (x : GNode) (s : GSub) : Option Bool := hasO s x
theorem tree_Has_ok {n : Nat} {x : GNode} {s : GSub} {r : Bool} (H : tree_Has n x s = some r) : PureOK Try.prog 8 [D.ag (eGNode x), D.ag (eGSub s)] (D.v (.bool r)) true := by
 refine ⟨⟨_, Try.func8, by kernel_rfl, by kernel_rfl⟩, fun w M0 args hM hsz hargs => ?_⟩
 obtain ⟨u0, e0, b0⟩ := hargs 0 _ rfl
 obtain ⟨u1, e1, b1⟩ := hargs 1 _ rfl
 obtain ⟨vs, rfl, hv, b0⟩ := b0
 obtain ⟨ws, rfl, hw, b1⟩ := b1
 rw [eGNode_eq] at hv b0
 obtain ⟨a0, p0, r0⟩ := b0 0 _ rfl
 obtain ⟨a1, p1, r1⟩ := b0 1 _ rfl
 obtain ⟨a2, p2, r2⟩ := b0 2 _ rfl
 obtain ⟨a3, p3, r3⟩ := b0 3 _ rfl
 obtain ⟨a4, p4, r4⟩ := b0 4 _ rfl
 obtain ⟨a5, p5, r5⟩ := b0 5 _ rfl
 obtain ⟨c0, q0, t0⟩ := b1 0 _ rfl
 obtain ⟨c1, q1, t1⟩ := b1 1 _ rfl
 obtain ⟨c2, q2, t2⟩ := b1 2 _ rfl
 cases r0
 cases r1
 cases r2
 cases r3
 cases t0
 cases t1
 cases t2
 have hN : NR w (fun k => k < w.heap.size ∧ ¬ M0 k) x ⟨x.kind, x.ref.obj.type_, x.ref.obj.id_, x.ref.rel, a4, a5⟩ := ⟨rfl, r4, r5⟩
 have key := has_at H (fun k h => h.1) hN w (Below.refl _ _)
 have hargs2 : args = #[(⟨x.kind, x.ref.obj.type_, x.ref.obj.id_, x.ref.rel, a4, a5⟩ : N6).v, (toS3 s).v] := by
  have hvs : vs = #[.int .i64 x.kind, .string x.ref.obj.type_, .string x.ref.obj.id_, .string x.ref.rel, a4, a5] := by
   have hv : vs.size = 6 := hv
   apply Array.ext
   ·simpa using hv
   ·intro j h1 h2
    have hj : j = 0 ∨ j = 1 ∨ j = 2 ∨ j = 3 ∨ j = 4 ∨ j = 5 := by omega
    rcases hj with rfl | rfl | rfl | rfl | rfl | rfl
    ·simpa [h1] using p0
    ·simpa [h1] using p1
    ·simpa [h1] using p2
    ·simpa [h1] using p3
    ·simpa [h1] using p4
    ·simpa [h1] using p5
  have hws : ws = #[.string s.type_, .string s.id_, .string s.rel] := by
   have hw : ws.size = 3 := hw
   apply Array.ext
   ·simpa using hw
   ·intro j h1 h2
    have hj : j = 0 ∨ j = 1 ∨ j = 2 := by omega
    rcases hj with rfl | rfl | rfl
    ·simpa [h1] using q0
    ·simpa [h1] using q1
    ·simpa [h1] using q2
  have hsz2 : args.size = 2 := by simpa using hsz
  apply Array.ext
  ·simpa using hsz2
  ·intro j h1 h2
   have hj : j = 0 ∨ j = 1 := by omega
   rcases hj with rfl | rfl
   ·rw [hvs] at e0
    simpa [h1, N6.v] using e0
   ·rw [hws] at e1
    simpa [h1, S3.v, toS3] using e1
 subst hargs2
 refine (calls_dr key fun e w' h => ⟨_, h.1⟩).mono ?_
 rintro e w' ⟨⟨rfl, h2⟩, h3⟩
 exact ⟨_, rfl, ⟨h2, h3⟩, .v _ rfl⟩
end Go.Proofs.Ytjkdbakgnnhdnaa.Ab
