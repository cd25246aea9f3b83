/-
 Two policies that are alike allow the same, and one's facts are valid if the other's are. No program in sight.
-/
import Derived.Test.YtkkhgdmmbhpckaaVm
namespace Go.Proofs.Ytkkhgdmmbhpckaa.Ab
open Go.RowKit
attribute [local instance] baLawful
def fU (u : ByteArray) : GFact := ⟨1, u, ByteArray.empty, ByteArray.empty, 0, [], 0⟩
def fR (u : ByteArray) : GFact := ⟨2, u, ByteArray.empty, ByteArray.empty, 0, [], 0⟩
def fI (p : GPair) : GFact := ⟨3, p.a, p.b, ByteArray.empty, 0, [], 0⟩
def fA (p : GPair) : GFact := ⟨4, p.a, p.b, ByteArray.empty, 0, [], 0⟩
def fG (g : GGrant) : GFact := ⟨5, g.role, g.op, g.obj, 0, [], 0⟩
def fS (d : GSod) : GFact := ⟨6, d.name, ByteArray.empty, ByteArray.empty, d.n_, d.roles, 0⟩
def fD (d : GSod) : GFact := ⟨7, d.name, ByteArray.empty, ByteArray.empty, d.n_, d.roles, 0⟩
def fE (s : GSession) : GFact := ⟨8, s.name, s.user, ByteArray.empty, 0, s.roles, 0⟩
def factsP (p : GRoles) : List GFact := p.users.map fU ++ (p.roles.map fR ++ (p.inherit.map fI ++ (p.assign.map fA ++ (p.grants.map fG ++ (p.ssd.map fS ++ (p.dsd.map fD ++ p.sessions.map fE))))))
theorem mem_facts {p : GRoles} {x : GFact} : x ∈ factsP p ↔ (∃ u ∈ p.users, fU u = x) ∨ (∃ u ∈ p.roles, fR u = x) ∨ (∃ u ∈ p.inherit, fI u = x) ∨ (∃ u ∈ p.assign, fA u = x) ∨ (∃ u ∈ p.grants, fG u = x) ∨ (∃ u ∈ p.ssd, fS u = x) ∨ (∃ u ∈ p.dsd, fD u = x) ∨ (∃ u ∈ p.sessions, fE u = x) := by
 unfold factsP
 simp only [List.mem_append, List.mem_map]
theorem fm_none {α β : Type} {k j : Int} {h : α → GFact} {g : GFact → β} (hk : ∀ x, (h x).kind = j) (hne : j ≠ k) (l : List α) : (l.map h).filterMap (fun f => if f.kind = k then some (g f) else none) = [] := by
 rw [List.filterMap_map, List.filterMap_eq_nil_iff]
 intro x _
 simp [hk x, hne]
theorem fm_all {α : Type} {k : Int} {h : α → GFact} {g : GFact → α} (hk : ∀ x, (h x).kind = k) (hg : ∀ x, g (h x) = x) (l : List α) : (l.map h).filterMap (fun f => if f.kind = k then some (g f) else none) = l := by
 rw [List.filterMap_map]
 have e : ((fun f => if f.kind = k then some (g f) else none) ∘ h) = some := by
  funext x
  simp [hk x, hg x]
 rw [e, List.filterMap_some]
theorem of_facts (p : GRoles) : ofF (factsP p) = p := by
 unfold ofF usersF rolesF inhF asgF grF ssdF dsdF sesF factsP
 simp only [List.filterMap_append]
 rw [fm_all (h := fU) (k := 1) (fun _ => rfl) (fun _ => rfl), fm_none (h := fR) (k := 1) (j := 2) (fun _ => rfl) (by decide), fm_none (h := fI) (k := 1) (j := 3) (fun _ => rfl) (by decide), fm_none (h := fA) (k := 1) (j := 4) (fun _ => rfl) (by decide), fm_none (h := fG) (k := 1) (j := 5) (fun _ => rfl) (by decide), fm_none (h := fS) (k := 1) (j := 6) (fun _ => rfl) (by decide), fm_none (h := fD) (k := 1) (j := 7) (fun _ => rfl) (by decide), fm_none (h := fE) (k := 1) (j := 8) (fun _ => rfl) (by decide)]
 rw [fm_none (h := fU) (k := 2) (j := 1) (fun _ => rfl) (by decide), fm_all (h := fR) (k := 2) (fun _ => rfl) (fun _ => rfl), fm_none (h := fI) (k := 2) (j := 3) (fun _ => rfl) (by decide), fm_none (h := fA) (k := 2) (j := 4) (fun _ => rfl) (by decide), fm_none (h := fG) (k := 2) (j := 5) (fun _ => rfl) (by decide), fm_none (h := fS) (k := 2) (j := 6) (fun _ => rfl) (by decide), fm_none (h := fD) (k := 2) (j := 7) (fun _ => rfl) (by decide), fm_none (h := fE) (k := 2) (j := 8) (fun _ => rfl) (by decide)]
 rw [fm_none (h := fU) (k := 3) (j := 1) (fun _ => rfl) (by decide), fm_none (h := fR) (k := 3) (j := 2) (fun _ => rfl) (by decide), fm_all (h := fI) (k := 3) (fun _ => rfl) (fun _ => rfl), fm_none (h := fA) (k := 3) (j := 4) (fun _ => rfl) (by decide), fm_none (h := fG) (k := 3) (j := 5) (fun _ => rfl) (by decide), fm_none (h := fS) (k := 3) (j := 6) (fun _ => rfl) (by decide), fm_none (h := fD) (k := 3) (j := 7) (fun _ => rfl) (by decide), fm_none (h := fE) (k := 3) (j := 8) (fun _ => rfl) (by decide)]
 rw [fm_none (h := fU) (k := 4) (j := 1) (fun _ => rfl) (by decide), fm_none (h := fR) (k := 4) (j := 2) (fun _ => rfl) (by decide), fm_none (h := fI) (k := 4) (j := 3) (fun _ => rfl) (by decide), fm_all (h := fA) (k := 4) (fun _ => rfl) (fun _ => rfl), fm_none (h := fG) (k := 4) (j := 5) (fun _ => rfl) (by decide), fm_none (h := fS) (k := 4) (j := 6) (fun _ => rfl) (by decide), fm_none (h := fD) (k := 4) (j := 7) (fun _ => rfl) (by decide), fm_none (h := fE) (k := 4) (j := 8) (fun _ => rfl) (by decide)]
 rw [fm_none (h := fU) (k := 5) (j := 1) (fun _ => rfl) (by decide), fm_none (h := fR) (k := 5) (j := 2) (fun _ => rfl) (by decide), fm_none (h := fI) (k := 5) (j := 3) (fun _ => rfl) (by decide), fm_none (h := fA) (k := 5) (j := 4) (fun _ => rfl) (by decide), fm_all (h := fG) (k := 5) (fun _ => rfl) (fun _ => rfl), fm_none (h := fS) (k := 5) (j := 6) (fun _ => rfl) (by decide), fm_none (h := fD) (k := 5) (j := 7) (fun _ => rfl) (by decide), fm_none (h := fE) (k := 5) (j := 8) (fun _ => rfl) (by decide)]
 rw [fm_none (h := fU) (k := 6) (j := 1) (fun _ => rfl) (by decide), fm_none (h := fR) (k := 6) (j := 2) (fun _ => rfl) (by decide), fm_none (h := fI) (k := 6) (j := 3) (fun _ => rfl) (by decide), fm_none (h := fA) (k := 6) (j := 4) (fun _ => rfl) (by decide), fm_none (h := fG) (k := 6) (j := 5) (fun _ => rfl) (by decide), fm_all (h := fS) (k := 6) (fun _ => rfl) (fun _ => rfl), fm_none (h := fD) (k := 6) (j := 7) (fun _ => rfl) (by decide), fm_none (h := fE) (k := 6) (j := 8) (fun _ => rfl) (by decide)]
 rw [fm_none (h := fU) (k := 7) (j := 1) (fun _ => rfl) (by decide), fm_none (h := fR) (k := 7) (j := 2) (fun _ => rfl) (by decide), fm_none (h := fI) (k := 7) (j := 3) (fun _ => rfl) (by decide), fm_none (h := fA) (k := 7) (j := 4) (fun _ => rfl) (by decide), fm_none (h := fG) (k := 7) (j := 5) (fun _ => rfl) (by decide), fm_none (h := fS) (k := 7) (j := 6) (fun _ => rfl) (by decide), fm_all (h := fD) (k := 7) (fun _ => rfl) (fun _ => rfl), fm_none (h := fE) (k := 7) (j := 8) (fun _ => rfl) (by decide)]
 rw [fm_none (h := fU) (k := 8) (j := 1) (fun _ => rfl) (by decide), fm_none (h := fR) (k := 8) (j := 2) (fun _ => rfl) (by decide), fm_none (h := fI) (k := 8) (j := 3) (fun _ => rfl) (by decide), fm_none (h := fA) (k := 8) (j := 4) (fun _ => rfl) (by decide), fm_none (h := fG) (k := 8) (j := 5) (fun _ => rfl) (by decide), fm_none (h := fS) (k := 8) (j := 6) (fun _ => rfl) (by decide), fm_none (h := fD) (k := 8) (j := 7) (fun _ => rfl) (by decide), fm_all (h := fE) (k := 8) (fun _ => rfl) (fun _ => rfl)]
 simp only [List.append_nil, List.nil_append]
def SameR (a b : List ByteArray) : Prop := ∀ y, y ∈ a ↔ y ∈ b
structure Lik (p q : GRoles) : Prop where
 u : ∀ x, x ∈ q.users ↔ x ∈ p.users
 r : ∀ x, x ∈ q.roles ↔ x ∈ p.roles
 dn : ∀ a b, Dn q.inherit a b ↔ Dn p.inherit a b
 i : ∀ x ∈ q.inherit, x ∈ p.inherit
 a : ∀ x, x ∈ q.assign ↔ x ∈ p.assign
 g : ∀ x, x ∈ q.grants ↔ x ∈ p.grants
 ss : ∀ d ∈ q.ssd, ∃ e ∈ p.ssd, d.name = e.name ∧ d.n_ = e.n_ ∧ SameR d.roles e.roles
 ds : ∀ d ∈ q.dsd, ∃ e ∈ p.dsd, d.name = e.name ∧ d.n_ = e.n_ ∧ SameR d.roles e.roles
 s1 : ∀ d ∈ q.sessions, ∃ e ∈ p.sessions, d.name = e.name ∧ d.user = e.user ∧ SameR d.roles e.roles
 s2 : ∀ e ∈ p.sessions, ∃ d ∈ q.sessions, d.name = e.name
theorem rol_like {p q : GRoles} (h : Lik p q) (u y : ByteArray) : RolP q u y ↔ RolP p u y :=
 and_congr (h.u u) (exists_congr fun s => and_congr (h.a _) (h.dn s y))
theorem two_like {l : List GFact} (h : ValidF l) {f g : GFact} (hf : f ∈ l) (hg : g ∈ l) (k : f.kind = g.kind) (k1 : 6 ≤ f.kind) (k2 : f.kind ≤ 8) (e : f.a = g.a) : f.n_ = g.n_ ∧ f.b = g.b ∧ tx.ofL f.l = tx.ofL g.l := by
 obtain ⟨i, hi, rfl⟩ := List.getElem_of_mem hf
 obtain ⟨j, hj, rfl⟩ := List.getElem_of_mem hg
 have key : ∀ (i j : Nat) (hi : i < l.length) (hj : j < l.length), i < j → l[i].kind = l[j].kind → 6 ≤ l[i].kind → l[i].kind ≤ 8 → l[i].a = l[j].a → l[i].n_ = l[j].n_ ∧ l[i].b = l[j].b ∧ tx.ofL l[i].l = tx.ofL l[j].l := by
  intro i j hi hj hlt k k1 k2 e
  have hno := (h.one j hj).2.1 l[i] (List.mem_iff_getElem.2 ⟨i, by rw [List.length_take]; omega, List.getElem_take ..⟩)
  exact Classical.byContradiction fun hc => hno ⟨k, e, k1, k2, hc⟩
 rcases Nat.lt_trichotomy i j with hlt | he | hgt
 ·exact key i j hi hj hlt k k1 k2 e
 ·subst he
  exact ⟨rfl, rfl, rfl⟩
 ·obtain ⟨h1, h2, h3⟩ := key j i hj hi hgt k.symm (by omega) (by omega) e.symm
  exact ⟨h1.symm, h2.symm, h3.symm⟩
theorem ses_two {l : List GFact} (h : ValidF l) {x y : GSession} (hx : x ∈ sesF l) (hy : y ∈ sesF l) (e : x.name = y.name) : SameR x.roles y.roles := by
 obtain ⟨f, f1, f2, rfl⟩ := mem_sesF.1 hx
 obtain ⟨g, g1, g2, rfl⟩ := mem_sesF.1 hy
 obtain ⟨_, _, h3⟩ := two_like h f1 g1 (by rw [f2, g2]) (by omega) (by omega) e
 intro z
 show z ∈ f.l ↔ z ∈ g.l
 rw [← tx.mem_ofL, h3, tx.mem_ofL]
theorem find_ses {l : List GSession} {s : ByteArray} {x : GSession} (hx : x ∈ l) (hn : x.name = s) : ∃ y, (l.find? fun x => decide (x.name = s)) = some y ∧ y ∈ l ∧ y.name = s := by
 cases h : l.find? fun x => decide (x.name = s) with
 | none =>
  have := List.find?_eq_none.1 h x hx
  rw [decide_eq_true hn] at this
  exact absurd rfl this
 | some y =>
  have := List.find?_some h
  exact ⟨y, rfl, List.mem_of_find?_eq_some h, of_decide_eq_true this⟩
theorem act_like {l : List GFact} (hv : ValidF l) {q : GRoles} (h : Lik (ofF l) q) (s y : ByteArray) : ActP q s y ↔ ActP (ofF l) s y := by
 constructor
 ·rintro ⟨x, hx, r, hr, hd⟩
  have hxm := List.mem_of_find?_eq_some hx
  have hxn : x.name = s := of_decide_eq_true (List.find?_some (p := fun x : GSession => decide (x.name = s)) hx)
  obtain ⟨e, he, en, _, er⟩ := h.s1 x hxm
  obtain ⟨z, hz, hzm, hzn⟩ := find_ses he (en.symm.trans hxn)
  refine ⟨z, hz, r, (ses_two hv hzm he (hzn.trans (hxn.symm.trans en)) r).2 ((er r).1 hr), (h.dn r y).1 hd⟩
 ·rintro ⟨z, hz, r, hr, hd⟩
  have hzm := List.mem_of_find?_eq_some hz
  have hzn : z.name = s := of_decide_eq_true (List.find?_some (p := fun x : GSession => decide (x.name = s)) hz)
  obtain ⟨d, hd1, hdn⟩ := h.s2 z hzm
  obtain ⟨x, hx, hxm, hxn⟩ := find_ses hd1 (hdn.trans hzn)
  obtain ⟨e, he, en, _, er⟩ := h.s1 x hxm
  exact ⟨x, hx, r, (er r).2 ((ses_two hv he hzm (en.symm.trans (hxn.trans hzn.symm)) r).2 hr), (h.dn r y).2 hd⟩
theorem may_like {p q : GRoles} (h : Lik p q) (u o b : ByteArray) : MayP q u o b ↔ MayP p u o b :=
 exists_congr fun g => and_congr (h.g g) (and_congr_right fun _ => and_congr_right fun _ => rol_like h u g.role)
theorem mayIn_like {l : List GFact} (hv : ValidF l) {q : GRoles} (h : Lik (ofF l) q) (u o b : ByteArray) : MayInP q u o b ↔ MayInP (ofF l) u o b :=
 exists_congr fun g => and_congr (h.g g) (and_congr_right fun _ => and_congr_right fun _ => act_like hv h u g.role)
def Par (x f : GFact) : Prop := x.kind = f.kind ∧ x.a = f.a ∧ (x.kind = 3 ∨ x.kind = 4 ∨ x.kind = 8 → x.b = f.b) ∧ (x.kind = 6 ∨ x.kind = 7 → x.n_ = f.n_) ∧ (6 ≤ x.kind → SameR x.l f.l)
theorem partner {l : List GFact} {q : GRoles} (h : Lik (ofF l) q) {x : GFact} (hx : x ∈ factsP q) : ∃ f ∈ l, Par x f := by
 rcases mem_facts.1 hx with ⟨u, hu, rfl⟩ | ⟨u, hu, rfl⟩ | ⟨u, hu, rfl⟩ | ⟨u, hu, rfl⟩ | ⟨u, hu, rfl⟩ | ⟨u, hu, rfl⟩ | ⟨u, hu, rfl⟩ | ⟨u, hu, rfl⟩
 ·obtain ⟨f, f1, f2, f3⟩ := mem_usersF.1 ((h.u u).1 hu)
  exact ⟨f, f1, f2.symm, f3.symm, fun h => (by rcases h with h | h | h <;> cases h), fun h => (by rcases h with h | h <;> cases h), fun h => absurd (show (6 : Int) ≤ 1 from h) (by decide)⟩
 ·obtain ⟨f, f1, f2, f3⟩ := mem_rolesF.1 ((h.r u).1 hu)
  exact ⟨f, f1, f2.symm, f3.symm, fun h => (by rcases h with h | h | h <;> cases h), fun h => (by rcases h with h | h <;> cases h), fun h => absurd (show (6 : Int) ≤ 2 from h) (by decide)⟩
 ·obtain ⟨f, f1, f2, rfl⟩ := mem_inhF.1 (h.i u hu)
  exact ⟨f, f1, f2.symm, rfl, fun _ => rfl, fun h => (by rcases h with h | h <;> cases h), fun h => absurd (show (6 : Int) ≤ 3 from h) (by decide)⟩
 ·obtain ⟨f, f1, f2, rfl⟩ := mem_asgF.1 ((h.a u).1 hu)
  exact ⟨f, f1, f2.symm, rfl, fun _ => rfl, fun h => (by rcases h with h | h <;> cases h), fun h => absurd (show (6 : Int) ≤ 4 from h) (by decide)⟩
 ·obtain ⟨f, f1, f2, rfl⟩ := mem_grF.1 ((h.g u).1 hu)
  exact ⟨f, f1, f2.symm, rfl, fun h => (by rcases h with h | h | h <;> cases h), fun h => (by rcases h with h | h <;> cases h), fun h => absurd (show (6 : Int) ≤ 5 from h) (by decide)⟩
 ·obtain ⟨e, he, e1, e2, e3⟩ := h.ss u hu
  obtain ⟨f, f1, f2, rfl⟩ := mem_ssdF.1 he
  exact ⟨f, f1, f2.symm, e1, fun h => (by rcases h with h | h | h <;> cases h), fun _ => e2, fun _ => e3⟩
 ·obtain ⟨e, he, e1, e2, e3⟩ := h.ds u hu
  obtain ⟨f, f1, f2, rfl⟩ := mem_dsdF.1 he
  exact ⟨f, f1, f2.symm, e1, fun h => (by rcases h with h | h | h <;> cases h), fun _ => e2, fun _ => e3⟩
 ·obtain ⟨e, he, e1, e2, e3⟩ := h.s1 u hu
  obtain ⟨f, f1, f2, rfl⟩ := mem_sesF.1 he
  exact ⟨f, f1, f2.symm, e1, fun _ => e2, fun h => (by rcases h with h | h <;> cases h), fun _ => e3⟩
theorem fact_empty {q : GRoles} {x : GFact} (hx : x ∈ factsP q) : (x.kind = 6 ∨ x.kind = 7 → x.b = ByteArray.empty) ∧ (x.kind = 8 → x.n_ = 0) := by
 rcases mem_facts.1 hx with ⟨u, hu, rfl⟩ | ⟨u, hu, rfl⟩ | ⟨u, hu, rfl⟩ | ⟨u, hu, rfl⟩ | ⟨u, hu, rfl⟩ | ⟨u, hu, rfl⟩ | ⟨u, hu, rfl⟩ | ⟨u, hu, rfl⟩
 ·exact ⟨fun h => (by rcases h with h | h <;> cases h), fun h => (by cases h)⟩
 ·exact ⟨fun h => (by rcases h with h | h <;> cases h), fun h => (by cases h)⟩
 ·exact ⟨fun h => (by rcases h with h | h <;> cases h), fun h => (by cases h)⟩
 ·exact ⟨fun h => (by rcases h with h | h <;> cases h), fun h => (by cases h)⟩
 ·exact ⟨fun h => (by rcases h with h | h <;> cases h), fun h => (by cases h)⟩
 ·exact ⟨fun _ => rfl, fun h => (by cases h)⟩
 ·exact ⟨fun _ => rfl, fun h => (by cases h)⟩
 ·exact ⟨fun h => (by rcases h with h | h <;> cases h), fun _ => rfl⟩
theorem ofL_same {a b : List ByteArray} (h : SameR a b) : tx.ofL a = tx.ofL b := tx.ofL_congr h
theorem valid_like {l : List GFact} (hv : ValidF l) {q : GRoles} (h : Lik (ofF l) q) : ValidF (factsP q) := by
 have hq := of_facts q
 have hus : usersF (factsP q) = q.users := congrArg GRoles.users hq
 have hrs : rolesF (factsP q) = q.roles := congrArg GRoles.roles hq
 have his : inhF (factsP q) = q.inherit := congrArg GRoles.inherit hq
 refine ⟨fun j hj => ?_, ?_, ?_, ?_⟩
 ·rw [hus, hrs]
  have hxm : (factsP q)[j] ∈ factsP q := List.getElem_mem hj
  have hah : ∀ z ∈ (factsP q).take j, z ∈ factsP q := fun z hz => List.mem_of_mem_take hz
  generalize (factsP q)[j] = x at hxm
  obtain ⟨f, hf, p1, p2, p3, p4, p5⟩ := partner h hxm
  obtain ⟨i, hi, rfl⟩ := List.getElem_of_mem hf
  obtain ⟨⟨n1, n2, n3, n4, n5⟩, _, hc⟩ := hv.one i hi
  refine ⟨⟨fun k => ?_, fun k => ?_, fun k => ?_, fun k => ?_, fun k => ?_⟩, fun z hz hun => ?_, fun k => ?_⟩
  ·rw [p2, p3 (.inl k)]
   exact ⟨(h.r _).2 (n1 (p1 ▸ k)).1, (h.r _).2 (n1 (p1 ▸ k)).2⟩
  ·rw [p2, p3 (.inr (.inl k))]
   exact ⟨(h.u _).2 (n2 (p1 ▸ k)).1, (h.r _).2 (n2 (p1 ▸ k)).2⟩
  ·rw [p2]
   exact (h.r _).2 (n3 (p1 ▸ k))
  ·exact fun r hr => (h.r _).2 (n4 (p1 ▸ k) r ((p5 (by omega) r).1 hr))
  ·rw [p3 (.inr (.inr k))]
   exact ⟨(h.u _).2 (n5 (p1 ▸ k)).1, fun r hr => (h.r _).2 ((n5 (p1 ▸ k)).2 r ((p5 (by omega) r).1 hr))⟩
  ·obtain ⟨u1, u2, u3, u4, u5⟩ := hun
   have hzm := hah z hz
   obtain ⟨g, hg, g1, g2, g3, g4, g5⟩ := partner h hzm
   obtain ⟨t1, t2, t3⟩ := two_like hv hg hf (by omega) (by omega) (by omega) (by rw [← g2, ← p2, u2])
   obtain ⟨a1, a2⟩ := fact_empty hzm
   obtain ⟨b1, b2⟩ := fact_empty hxm
   have hl : tx.ofL z.l = tx.ofL x.l := by rw [ofL_same (g5 (by omega)), ofL_same (p5 (by omega)), t3]
   by_cases k8 : x.kind = 8
   ·exact u5 ⟨by rw [a2 (by omega), b2 k8], by rw [g3 (.inr (.inr (by omega))), p3 (.inr (.inr k8)), t2], hl⟩
   ·have kx : x.kind = 6 ∨ x.kind = 7 := by omega
    have kz : z.kind = 6 ∨ z.kind = 7 := by omega
    exact u5 ⟨by rw [g4 kz, p4 kx, t1], by rw [a1 kz, b1 kx], hl⟩
  ·have := hc (p1 ▸ k)
   rw [p4 k, ofL_same (p5 (by omega))]
   exact this
 ·rw [his]
  rintro ⟨x, hx, hd⟩
  exact hv.ring ⟨x, h.i x hx, (h.dn _ _).1 hd⟩
 ·intro x hx k
  rw [hq]
  obtain ⟨f, hf, p1, p2, p3, p4, p5⟩ := partner h hx
  intro u hu
  rw [cntP_congr (p5 (by omega)) (fun y => rol_like h u y), p4 (.inl k)]
  exact hv.stat f hf (p1 ▸ k) u ((h.u u).1 hu)
 ·intro x hx k
  rw [hq]
  obtain ⟨f, hf, p1, p2, p3, p4, p5⟩ := partner h hx
  obtain ⟨s1, s2⟩ := hv.sess f hf (p1 ▸ k)
  refine ⟨fun r hr => ?_, fun d hd => ?_⟩
  ·rw [rol_like h, p3 (.inr (.inr k))]
   exact s1 r ((p5 (by omega) r).1 hr)
  ·obtain ⟨e, he, e1, e2, e3⟩ := h.ds d hd
   rw [cntP_congr e3 (fun y => act_like hv h x.a y), e2, p2]
   exact s2 e he
end Go.Proofs.Ytkkhgdmmbhpckaa.Ab
