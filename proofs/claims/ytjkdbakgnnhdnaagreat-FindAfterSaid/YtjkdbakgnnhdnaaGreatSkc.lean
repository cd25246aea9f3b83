/-
 Whether a subject is in a relation of an object: the walk.
-/
import Derived.Test.YtjkdbakgnnhdnaaGreatSkb
namespace Go.Proofs.YtjkdbakgnnhdnaaGreat.Ab
open Go.RowKit
set_option maxRecDepth 4000 in
theorem has_ok {n c f : Nat} {G : SeekGraph} {o : GObj} {rel : ByteArray} {s : GSub} {nw : List PN → GRef → Option Bool} {N1 P1 P2 : List PN} {ord2 : List GRef} {rk : GRef → Int} {x : PN}
  (hnw : NowOK G (.v (.string s.type_)) (.v (.string s.id_)) (.v (.string s.rel)) nw) (h1 : reachM (nodeM n G) c [] [⟨o, rel⟩] = some N1) (h2 : aboM (N1.map (·.k)) N1 = some P1) (hne : N1 ≠ []) (hL : N1.length < 4611686018427387904)
  (hrk : ∀ n ∈ P1, rk n.k = n.rank) (hord : ∀ r ∈ N1.map (·.k), (findP r P1).isSome = true) (h3 : SortsTo (fun a b => cmpI (rk a) (rk b)) (N1.map (·.k)) ord2) (hL2 : ord2.length = N1.length) (h4 : rankM nw f ord2 P1 = some P2) (h5 : findP ⟨o, rel⟩ P2 = some x) :
  PureOK Tryz.prog 12 [D.pt (eSeekGraph G) 0, .ag (eGObj o), .v (.string rel), .ag (eGSub s)] (.v (.bool x.is)) true := by
 refine ZP tab_ok fol (rs := #[.tmp 8]) Tryz.func12 ?_
 refine zsq (ZT 1 ?_)
 refine Z0 ?_
 refine zsq (ZT 1 ?_)
 refine Z0 ?_
 refine zsq (ZT 1 ?_)
 refine Z0 ?_
 refine zsq ?_
 generalize e1 : (upd 12 (some _) _ : Hp) = hp1
 have q1 : hp1 7 = some (boxQ G (.v (.string s.type_)) (.v (.string s.id_)) (.v (.string s.rel)) 5 0 0 []) := by rw [← e1]; rfl
 have m1 : hp1 5 = some (.mo [] false) := by rw [← e1]; rfl
 have b1 : hp1 12 = some (boxR ⟨o, rel⟩) := by rw [← e1]; rfl
 have n1 : ∀ j, 14 ≤ j → hp1 j = none := fun j hj => by
  rw [← e1, upd_ne _ _ (by omega), upd_ne _ _ (by omega), upd_ne _ _ (by omega), upd_ne _ _ (by omega), upd_ne _ _ (by omega), upd_ne _ _ (by omega)]
  rfl
 refine ZT 1 ?_
 refine Z1 b1 ?_
 have I1 : InvN hp1 5 [] := ⟨m1, (fun _ h => by cases h), (fun _ h => by cases h), List.nodup_nil, List.nodup_nil, (fun _ h => by cases h)⟩
 refine onCall_inl (InlOK.mono (reach_ok (r0 := ⟨o, rel⟩) (fun j (hj : 14 + 3 ≤ j) => n1 j (by omega)) q1 (fun h => absurd rfl h) I1 (fun _ h => by cases h) h1 rfl) fun v hp2 nx2 h => ?_)
 obtain ⟨rfl, ⟨N, oid, over, rfl, g1, g2, g3, g4, g5⟩, g6, g7, g8⟩ := h
 have g8 : 14 + 3 ≤ nx2 := g8
 have hneN : N ≠ [] := fun e => hne (by rw [e]; rfl)
 have b2 : hp2 12 = some (boxR ⟨o, rel⟩) := (g6 12 (fun h => by cases b1.symm.trans h) (by omega) (by omega) fun h => absurd rfl h).trans b1
 have ek : (pns N).map (·.k) = ordN N := by simp [pns, ordN, Function.comp_def]
 rw [ek] at h2 hord h3
 refine Z0 ?_
 refine zsq (ZT 1 ?_)
 refine Z0 ?_
 refine onCall_inl (InlOK.mono (solve_ok hnw (fun j (hj : nx2 + 2 ≤ j) => g7 j (by omega)) g3 ((g4 hneN).trans (accO_some (by simpa using hneN))) (by simpa using hneN) (by simpa using hL) g1 g2 h2 hrk hord h3 (by simpa using hL2) h4) fun v hp3 nx3 h => ?_)
 obtain ⟨rfl, N2, rfl, k1⟩ := h
 have b3 : hp3 12 = some (boxR ⟨o, rel⟩) := (k1.keep 12 (fun h => by cases b2.symm.trans h) (fun n hn e => kind_ne (g1.box n hn) b2 (fun e => by cases e) e) (kind_ne b2 ((g4 hneN).trans (accO_some (by simpa using hneN))) fun e => by cases e)).trans b2
 rw [findP_pns] at h5
 obtain ⟨n2, e2, rfl⟩ := Option.map_eq_some_iff.1 h5
 refine Z0 ?_
 refine zsq (ZT 1 ?_)
 refine Z1 (And.intro k1.box (And.intro k1.nodes.map (And.intro b3 (And.intro (look_has e2) (k1.nodes.bx e2))))) ?_
 refine Rd_endF (by rfl) ?_
 refine Z0 ?_
 refine ZT 1 ?_
 refine Z0 ?_
 exact ZE0
end Go.Proofs.YtjkdbakgnnhdnaaGreat.Ab
