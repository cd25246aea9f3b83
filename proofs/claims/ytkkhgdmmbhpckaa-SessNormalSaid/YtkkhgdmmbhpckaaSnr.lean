/-
 The normal form is alike. No program in sight.
-/
import Derived.Test.YtkkhgdmmbhpckaaSnq
namespace Go.Proofs.Ytkkhgdmmbhpckaa.Ab
open Go.RowKit
attribute [local instance] baLawful
def rowL (x : GFact) : GFact := ⟨x.kind, x.a, x.b, x.c, x.n_, tx.ofL x.l, x.at_⟩
def rowsN (p : GRoles) : List GFact := (factsP p).map rowL
theorem rows_can {p : GRoles} {x : GFact} (hx : x ∈ rowsN p) : CanF x := by
 obtain ⟨y, hy, rfl⟩ := List.mem_map.1 hx
 obtain ⟨h1, h2, h3, h4, h5⟩ := facts_can hy
 exact ⟨h1, h2, h3, fun h => by
  show tx.ofL y.l = []
  rw [h4 h]
  rfl, h5⟩
theorem fm_set {β : Type} {k : Int} {g : GFact → β} (l : List GFact) : (l.map rowL).filterMap (fun f => if f.kind = k then some (g f) else none) = l.filterMap (fun f => if f.kind = k then some (g (rowL f)) else none) := by
 rw [List.filterMap_map]
 rfl
theorem fm_then {α β : Type} {k : Int} {g : GFact → α} {h : α → β} (l : List GFact) : l.filterMap (fun f => if f.kind = k then some (h (g f)) else none) = (l.filterMap fun f => if f.kind = k then some (g f) else none).map h := by
 rw [List.map_filterMap]
 congr 1
 funext f
 split <;> rfl
def sodQ (d : GSod) : GSod := ⟨d.name, d.n_, tx.ofL d.roles⟩
def sesQ (s : GSession) : GSession := ⟨s.name, s.user, tx.ofL s.roles⟩
theorem of_rows (p : GRoles) : ofF (rowsN p) = ⟨p.users, p.roles, p.inherit, p.assign, p.grants, p.ssd.map sodQ, p.dsd.map sodQ, p.sessions.map sesQ⟩ := by
 have hp := of_facts p
 have e1 : usersF (rowsN p) = p.users := (fm_set (k := 1) (g := fun f => f.a) (factsP p)).trans (congrArg GRoles.users hp)
 have e2 : rolesF (rowsN p) = p.roles := (fm_set (k := 2) (g := fun f => f.a) (factsP p)).trans (congrArg GRoles.roles hp)
 have e3 : inhF (rowsN p) = p.inherit := (fm_set (k := 3) (g := fun f => (⟨f.a, f.b⟩ : GPair)) (factsP p)).trans (congrArg GRoles.inherit hp)
 have e4 : asgF (rowsN p) = p.assign := (fm_set (k := 4) (g := fun f => (⟨f.a, f.b⟩ : GPair)) (factsP p)).trans (congrArg GRoles.assign hp)
 have e5 : grF (rowsN p) = p.grants := (fm_set (k := 5) (g := fun f => (⟨f.a, f.b, f.c⟩ : GGrant)) (factsP p)).trans (congrArg GRoles.grants hp)
 have e6 : ssdF (rowsN p) = p.ssd.map sodQ := ((fm_set (k := 6) (g := fun f => (⟨f.a, f.n_, f.l⟩ : GSod)) (factsP p)).trans (fm_then (k := 6) (g := fun f => (⟨f.a, f.n_, f.l⟩ : GSod)) (h := sodQ) (factsP p))).trans (congrArg (List.map sodQ) (congrArg GRoles.ssd hp))
 have e7 : dsdF (rowsN p) = p.dsd.map sodQ := ((fm_set (k := 7) (g := fun f => (⟨f.a, f.n_, f.l⟩ : GSod)) (factsP p)).trans (fm_then (k := 7) (g := fun f => (⟨f.a, f.n_, f.l⟩ : GSod)) (h := sodQ) (factsP p))).trans (congrArg (List.map sodQ) (congrArg GRoles.dsd hp))
 have e8 : sesF (rowsN p) = p.sessions.map sesQ := ((fm_set (k := 8) (g := fun f => (⟨f.a, f.b, f.l⟩ : GSession)) (factsP p)).trans (fm_then (k := 8) (g := fun f => (⟨f.a, f.b, f.l⟩ : GSession)) (h := sesQ) (factsP p))).trans (congrArg (List.map sesQ) (congrArg GRoles.sessions hp))
 unfold ofF
 rw [e1, e2, e3, e4, e5, e6, e7, e8]
theorem fm_congr {β : Type} {g : GFact → Option β} {R L : List GFact} (h : ∀ x, x ∈ R ↔ x ∈ L) (y : β) : y ∈ R.filterMap g ↔ y ∈ L.filterMap g := by
 simp only [List.mem_filterMap, h]
structure NorP (p q : GRoles) : Prop where
 rows : ∃ R, RisF R ∧ (∀ z, z ∈ R ↔ z ∈ rowsN p) ∧ q.users = usersF R ∧ q.roles = rolesF R ∧ q.assign = asgF R ∧ q.grants = grF R ∧ q.ssd = ssdF R ∧ q.dsd = dsdF R ∧ q.sessions = sesF R ∧ ∀ x, x ∈ q.inherit ↔ x ∈ inhF R ∧ ¬ SaidP (inhF R) x
theorem lik_normal {p q : GRoles} (hr : ¬ RingP p.inherit) (h : NorP p q) : Lik p q := by
 obtain ⟨R, _, hR, e1, e2, e4, e5, e6, e7, e8, hM⟩ := h.rows
 have hp := of_rows p
 have i1 : ∀ x, x ∈ inhF R ↔ x ∈ p.inherit := fun x => (fm_congr hR x).trans (by rw [show (rowsN p).filterMap _ = p.inherit from congrArg GRoles.inherit hp])
 have hri : ¬ RingP (inhF R) := fun ⟨x, hx, hd⟩ => hr ⟨x, (i1 x).1 hx, dn_sub (fun y hy => (i1 y).1 hy) hd⟩
 refine ⟨fun x => ?_, fun x => ?_, fun a b => ?_, fun x hx => ?_, fun x => ?_, fun x => ?_, fun d hd => ?_, fun d hd => ?_, fun d hd => ?_, fun e he => ?_⟩
 ·rw [e1]
  exact (fm_congr hR x).trans (by rw [show (rowsN p).filterMap _ = p.users from congrArg GRoles.users hp])
 ·rw [e2]
  exact (fm_congr hR x).trans (by rw [show (rowsN p).filterMap _ = p.roles from congrArg GRoles.roles hp])
 ·rw [dn_least hri hM]
  exact ⟨dn_sub fun y hy => (i1 y).1 hy, dn_sub fun y hy => (i1 y).2 hy⟩
 ·exact (i1 x).1 ((hM x).1 hx).1
 ·rw [e4]
  exact (fm_congr hR x).trans (by rw [show (rowsN p).filterMap _ = p.assign from congrArg GRoles.assign hp])
 ·rw [e5]
  exact (fm_congr hR x).trans (by rw [show (rowsN p).filterMap _ = p.grants from congrArg GRoles.grants hp])
 ·rw [e6] at hd
  have hd := (fm_congr hR d).1 hd
  rw [show (rowsN p).filterMap _ = p.ssd.map sodQ from congrArg GRoles.ssd hp] at hd
  obtain ⟨e, he, rfl⟩ := List.mem_map.1 hd
  exact ⟨e, he, rfl, rfl, fun y => tx.mem_ofL⟩
 ·rw [e7] at hd
  have hd := (fm_congr hR d).1 hd
  rw [show (rowsN p).filterMap _ = p.dsd.map sodQ from congrArg GRoles.dsd hp] at hd
  obtain ⟨e, he, rfl⟩ := List.mem_map.1 hd
  exact ⟨e, he, rfl, rfl, fun y => tx.mem_ofL⟩
 ·rw [e8] at hd
  have hd := (fm_congr hR d).1 hd
  rw [show (rowsN p).filterMap _ = p.sessions.map sesQ from congrArg GRoles.sessions hp] at hd
  obtain ⟨e, he, rfl⟩ := List.mem_map.1 hd
  exact ⟨e, he, rfl, rfl, fun y => tx.mem_ofL⟩
 ·refine ⟨sesQ e, ?_, rfl⟩
  rw [e8]
  refine (fm_congr hR (sesQ e)).2 ?_
  rw [show (rowsN p).filterMap _ = p.sessions.map sesQ from congrArg GRoles.sessions hp]
  exact List.mem_map.2 ⟨e, he, rfl⟩
theorem inh_nodup {R : List GFact} (h : RisF R) (hc : ∀ x ∈ R, CanF x) : (inhF R).Nodup := by
 have hz : ∀ x ∈ R, ∀ y ∈ R, x.kind = 3 → y.kind = 3 → (⟨x.a, x.b⟩ : GPair) = ⟨y.a, y.b⟩ → x = y := fun x hx y hy k1 k2 e => by
  obtain ⟨x1, _, _, x4, x5⟩ := hc x hx
  obtain ⟨y1, _, _, y4, y5⟩ := hc y hy
  obtain ⟨x6, x7⟩ := x5 k1
  obtain ⟨y6, y7⟩ := y5 k2
  have x4 := x4 (by omega)
  have y4 := y4 (by omega)
  obtain ⟨e1, e2⟩ := GPair.mk.inj e
  obtain ⟨xk, xa, xb, xc, xn, xl, xt⟩ := x
  obtain ⟨yk, ya, yb, yc, yn, yl, yt⟩ := y
  dsimp only at *
  rw [e1, e2, k1, k2, x1, y1, x6, y6, x7, y7, x4, y4]
 unfold inhF List.Nodup
 rw [List.pairwise_filterMap]
 refine List.Pairwise.imp_of_mem (fun {x y} hx hy hlt b hb b' hb' e => ?_) h
 split at hb
 ·split at hb'
  ·next k1 k2 =>
   have := hz x hx y hy k1 k2 ((Option.some.inj hb).trans (e.trans (Option.some.inj hb').symm))
   subst this
   have := pre_cmpF.neg x x
   omega
  ·cases hb'
 ·cases hb
end Go.Proofs.Ytkkhgdmmbhpckaa.Ab
