/-
 Whether the subject is in a relation that has no words of its own, as far as is known.
-/
import Derived.Test.YtjkdbakgnnhdnaaGreatSk2
import Derived.Test.YtjkdbakgnnhdnaaGreatSk3
import Derived.Test.YtjkdbakgnnhdnaaGreatSfa
namespace Go.Proofs.YtjkdbakgnnhdnaaGreat.Ab
open Go.RowKit
set_option maxRecDepth 4000 in
theorem now_ok {hp : Hp} {nx q m n rid : Nat} {bd : Bool} {G : SeekGraph} {r : GRef} {s : GSub} {rel : GRel × Bool} {subs : List GSub} {c : Bool} {deps : List GRef} {o rk ab rx : AV} {es : List (Value × AV)} {dl : Bool} {is : GRef → Bool} (hf : ∀ j, nx ≤ j → hp j = none)
  (hq : hp q = some (.bx [.d (.pt (eSeekGraph G) 0) true, .v (.string s.type_), .v (.string s.id_), .v (.string s.rel), .mo m, o])) (hm : hp m = some (.mo es dl)) (hr : NodeAt es r rid) (hn : hp rid = some (.bx [rk, .d (.sl (deps.map eGRef)) bd, ab, rx]))
  (h1 : well_Schema_Rel n G.schema r.obj.type_ r.rel = some rel) (h2 : rel.1.expr = []) (h3 : look_left_Subs n G.index.left r.obj r.rel = some subs) (h4 : slices_Contains_Sub n subs s = some c)
  (hN : NodesAt hp es is deps) (hx : deps.length < 4611686018427387904) :
  ∃ nx', nx ≤ nx' ∧ InlOK Tryz.prog 46 [.pt q 0, .ag [.v (.string r.obj.type_), .v (.string r.obj.id_), .v (.string r.rel)]] hp nx fun v hp2 nx2 => v = .v (.bool (c || deps.any is)) ∧ hp2 = hp ∧ nx2 = nx' := by
 obtain ⟨⟨rn, rs, re⟩, ro⟩ := rel
 cases h2
 have n0 : nw nx q = 0 := nw_old (lt_new hf hq)
 have n1 : nw nx nx = 1 := nw_self
 have n2 : nw nx (nx + 2 + 16) = 19 := by unfold nw; omega
 have w := And.intro (show (nx = nx + 2 + 16) = False from eq_false (by omega)) <| And.intro (show (q = nx + 2 + 16) = False from eq_false (by have := lt_new hf hq; omega)) <| And.intro (show (m = nx + 2 + 16) = False from eq_false (by have := lt_new hf hm; omega)) <| And.intro (show (rid = nx + 2 + 16) = False from eq_false (by have := lt_new hf hn; omega)) <| And.intro (ne_new hf hq) (And.intro (ne_new hf hm) (And.intro (ne_new hf hn) (And.intro hq (And.intro hm (And.intro hr hn)))))
 obtain ⟨hp1, e1⟩ : ∃ hp1, hp1 = upd (nx + 2 + 16) (some (.bx [.v (.string rn), .d (.sl (rs.map eGSub)) true, .d (.sl []) true])) (upd (nx + 2 + 16) (some (.bx [.v (.string ByteArray.empty), .v (.slice none 0 0), .v (.slice none 0 0)])) (upd nx (some (.bx [.v (.string r.obj.type_), .v (.string r.obj.id_), .v (.string r.rel)])) hp)) := ⟨_, rfl⟩
 have old : ∀ {i : Nat} {o : AO}, hp i = some o → hp1 i = some o := fun {i o} h => by
  have := lt_new hf h
  rw [e1, upd_ne _ _ (by omega), upd_ne _ _ (by omega), upd_ne _ _ (by omega)]
  exact h
 have less : Less hp hp1 := ⟨fun i => by
  by_cases h : i < nx
  ·exact .inr (by rw [e1, upd_ne _ _ (by omega), upd_ne _ _ (by omega), upd_ne _ _ (by omega)])
  ·exact .inl (hf i (by omega))⟩
 obtain ⟨nx', g1, g2⟩ := any_ok (nx := nx + 2 + 19 + 4 + 33) (b := bd) (is := is) (l := deps) (fun j hj => by rw [e1, upd_ne _ _ (by omega), upd_ne _ _ (by omega), upd_ne _ _ (by omega)]; exact hf j (by omega)) (old hq) (old hm) (fun r hr => by
   obtain ⟨id, rk, dp, ab, k1, k2⟩ := hN r hr
   exact ⟨id, rk, dp, ab, k1, old k2⟩) hx
 refine ⟨if c then nx + 2 + 19 + 4 + 33 else nx', by split <;> omega, inl_run tab_ok fol Tryz.func46 (by rfl) (by kernel_rfl) (by kernel_rfl) (by exact Nat.le_of_ble_eq_true rfl) ?_⟩
 refine Z1 w ?_
 refine ZD0 (well_Schema_Rel_ok h1) ?_
 refine Z1 w ?_
 refine Rd_endM (nw nx) _ rfl (by simp only [List.reverse_cons, List.reverse_nil, List.nil_append, List.cons_append, List.map_cons, List.map_nil, mpRec, n0, n1, n2]; rfl) (by rfl) ?_
 refine Z1 w ?_
 refine onCallD_pureX (b := true) [] (fun hp1 h1 => by exact (PW.cons (ToXA.d (ToXV.one (ToX.rbE 2 (ToX.one (b' := true) (is := []) rfl (fun _ => rfl)) (by rfl)) rfl)) (PW.cons (ToXA.d (ToXV.agP (PW.cons (ToX.one (b' := false) (is := []) rfl (fun _ => rfl)) (PW.cons (ToX.one (b' := false) (is := []) rfl (fun _ => rfl)) PW.nil)))) (PW.cons (ToXA.d (ToXV.one (ToX.one (b' := false) (is := []) rfl (fun _ => rfl)) rfl)) PW.nil)))) (PureA.of_pure (look_left_Subs_ok h3)) ?_
 refine Z1 w ?_
 refine ZD0 (slices_Contains_Sub_ok h4) ?_
 cases c with
 | true =>
  refine Z1 w ?_
  refine Rd_endF (by rfl) ?_
  refine Z1 w ?_
  exact ⟨_, hp, rfl, by rw [← e1]; exact less, rfl, rfl, rfl⟩
 | false =>
  refine Z1 w ?_
  rw [← e1]
  refine onCallD_one (δ := []) g2 ?_
  refine Z0 ?_
  refine Rd_endF (by rfl) ?_
  refine Z0 ?_
  exact ⟨_, hp, rfl, less, rfl, rfl, rfl⟩
end Go.Proofs.YtjkdbakgnnhdnaaGreat.Ab
