/-
 Whether the subject is in a relation that has no words of its own, as far as is known.
-/
import Derived.Test.YtachgkhleoodaaaGreatSgs
import Derived.Test.YtachgkhleoodaaaGreatAbL
import Derived.Test.YtachgkhleoodaaaGreatSk3
import Derived.Test.YtachgkhleoodaaaGreatSfa
namespace Go.Proofs.YtachgkhleoodaaaGreat.Ab
open Go.RowKit
def mpRec (f : Nat → Nat) (a : Rec) : Rec := ⟨a.ids.map f, a.ks.map f, a.g⟩
theorem meet_mp {f : Nat → Nat} {xs ys : List Nat} (h : meet xs ys = true) : meet (xs.map f) (ys.map f) = true := by
 unfold meet at h ⊢
 simp only [List.any_eq_true, List.mem_map, List.contains_iff_mem] at h ⊢
 obtain ⟨i, hi, hk⟩ := h
 exact ⟨_, ⟨i, hi, rfl⟩, ⟨i, hk, rfl⟩⟩
theorem confl_mp {f : Nat → Nat} {a b : Rec} (ha : a.g = false) (hb : b.g = false) (h : confl a b = true) : confl (mpRec f a) (mpRec f b) = true := by
 simp only [confl, confl0, wild, ha, hb, Bool.or_eq_true, Bool.false_and, Bool.false_eq_true, or_false] at h
 apply confl_of0
 simp only [confl0, Bool.or_eq_true]
 rcases h with h | h
 ·have := meet_mp (f := f) h
  rw [List.map_append] at this
  exact .inl (.inl this)
 ·exact .inl (.inr (meet_mp h))
theorem okAll_mp {f : Nat → Nat} {ops : Array Oper} {rs : List Rec} (hg : rs.all (fun a => !a.g) = true) (h : okAll ops (rs.map (mpRec f)) = true) : okAll ops rs = true := by
 have hg : ∀ a ∈ rs, a.g = false := by simpa using hg
 simp only [okAll, okPairs, Bool.and_eq_true, List.all_eq_true] at h ⊢
 refine ⟨h.1, fun j hj i hi => ?_⟩
 have h1 := h.2 j hj i hi
 rw [List.getElem?_map, List.getElem?_map] at h1
 cases hx : rs[i]? with
 | none =>
  rw [hx] at h1
  exact h1
 | some a =>
  cases hy : rs[j]? with
  | none =>
   rw [hx, hy] at h1
   exact h1
  | some b =>
   rw [hx, hy] at h1
   simp only [Option.map_some] at h1 ⊢
   cases hc : confl a b with
   | false =>
    rw [Bool.or_eq_true] at h1 ⊢
    rcases h1 with h1 | h1
    ·exact .inl h1
    ·refine .inr ?_
     rw [Bool.and_eq_true] at h1 ⊢
     exact ⟨h1.1, rfl⟩
   | true =>
    rw [confl_mp (hg a (List.mem_of_getElem? hx)) (hg b (List.mem_of_getElem? hy)) hc] at h1
    simpa using h1
def nw (nx i : Nat) : Nat := i + 1 - nx
theorem nw_old {nx i : Nat} (h : i < nx) : nw nx i = 0 := by
 unfold nw
 omega
theorem nw_self {nx : Nat} : nw nx nx = 1 := by
 unfold nw
 omega
theorem Rd_endM {P : Program} {tab : Nat → TI} {ops : Array Oper} {nx0 nx i : Nat} {k : List It} {Q : Ex → St → Prop} {acc : List Rec} {fr : Fr} {hp : Hp} (f : Nat → Nat) (rs : List Rec) (hr : acc.reverse.map (mpRec f) = rs) (h1 : okFast ops rs = true) (hg : acc.reverse.all (fun a => !a.g) = true) (h2 : run P tab k Q ⟨fr, hp, nx⟩) : Rd P tab ops nx0 nx k Q i [] acc fr hp :=
 ⟨okAll_mp hg (okFast_ok (hr ▸ h1)), h2⟩
end Go.Proofs.YtachgkhleoodaaaGreat.Ab
namespace Go.Proofs.YtachgkhleoodaaaGreat.Ab
open Go.RowKit
set_option maxRecDepth 4000 in
theorem now_ok {hp : Hp} {nx q m n rid : Nat} {bd : Bool} {G : SeekGraph} {r : GRef} {s : GSub} {rel : GRel × Bool} {subs : List GSub} {c : Bool} {deps : List GRef} {o rk ab rx : AV} {es : List (Value × AV)} {dl : Bool} {is : GRef → Bool} (hf : ∀ j, nx ≤ j → hp j = none)
  (hq : hp q = some (.bx [.d (.pt (eSeekGraph G) 0) true, .v (.string s.type_), .v (.string s.id_), .v (.string s.rel), .mo m, o])) (hm : hp m = some (.mo es dl)) (hr : NodeAt es r rid) (hn : hp rid = some (.bx [rk, .d (.sl (deps.map eGRef)) bd, ab, rx]))
  (h1 : well_Schema_Rel n G.schema r.obj.type_ r.rel = some rel) (h2 : rel.1.expr = []) (h3 : look_left_Subs n G.index.left r.obj r.rel = some subs) (h4 : slices_Contains_Sub n subs s = some c)
  (hN : NodesAt hp es is deps) (hx : deps.length < 4611686018427387904) :
  ∃ nx', nx ≤ nx' ∧ InlOK Tryz.prog 49 [.pt q 0, .ag [.v (.string r.obj.type_), .v (.string r.obj.id_), .v (.string r.rel)]] hp nx fun v hp2 nx2 => v = .v (.bool (c || deps.any is)) ∧ hp2 = hp ∧ nx2 = nx' := by
 obtain ⟨⟨rn, rs, re⟩, ro⟩ := rel
 cases h2
 have n0 : nw nx q = 0 := nw_old (lt_new hf hq)
 have n1 : nw nx nx = 1 := nw_self
 have n2 : nw nx (nx + 2 + 16) = 19 := by unfold nw; omega
 have w := And.intro (show (nx = nx + 2 + 16) = False from eq_false (by omega)) <| And.intro (show (q = nx + 2 + 16) = False from eq_false (by have := lt_new hf hq; omega)) <| And.intro (show (m = nx + 2 + 16) = False from eq_false (by have := lt_new hf hm; omega)) <| And.intro (show (rid = nx + 2 + 16) = False from eq_false (by have := lt_new hf hn; omega)) <| And.intro (ne_new hf hq) (And.intro (ne_new hf hm) (And.intro (ne_new hf hn) (And.intro hq (And.intro hm (And.intro hr hn)))))
 obtain ⟨hp1, e1⟩ : ∃ hp1, hp1 = upd (nx + 2 + 16) (some (.bx [.v (.string rn), .d (.sl (rs.map eGSub)) true, .d (.sl []) true])) (upd (nx + 2 + 16) (some (.bx [.v (.string ByteArray.empty), .v (.slice none 0 0), .v (.slice none 0 0)])) (upd nx (some (.bx [.v (.string r.obj.type_), .v (.string r.obj.id_), .v (.string r.rel)])) hp)) := ⟨_, rfl⟩
 have old : ∀ {i : Nat} {o : AO}, hp i = some o → hp1 i = some o := fun {i o} h => by
  have := lt_new hf h
  rw [e1, upd_ne _ _ (by omega), upd_ne _ _ (by omega), upd_ne _ _ (by omega)]
  exact h
 have less : Less hp hp1 := ⟨fun i => by
  by_cases h : i < nx
  ·exact .inr (by rw [e1, upd_ne _ _ (by omega), upd_ne _ _ (by omega), upd_ne _ _ (by omega)])
  ·exact .inl (hf i (by omega))⟩
 obtain ⟨nx', g1, g2⟩ := any_ok (nx := nx + 2 + 19 + 4 + 33) (b := bd) (is := is) (l := deps) (fun j hj => by rw [e1, upd_ne _ _ (by omega), upd_ne _ _ (by omega), upd_ne _ _ (by omega)]; exact hf j (by omega)) (old hq) (old hm) (fun r hr => by
   obtain ⟨id, rk, dp, ab, k1, k2⟩ := hN r hr
   exact ⟨id, rk, dp, ab, k1, old k2⟩) hx
 refine ⟨if c then nx + 2 + 19 + 4 + 33 else nx', by split <;> omega, inl_run tab_ok fol Tryz.func49 (by rfl) (by kernel_rfl) (by kernel_rfl) (by exact Nat.le_of_ble_eq_true rfl) ?_⟩
 refine Z1 w ?_
 refine ZD0 (well_Schema_Rel_ok h1) ?_
 refine Z1 w ?_
 refine Rd_endM (nw nx) _ rfl (by simp only [List.reverse_cons, List.reverse_nil, List.nil_append, List.cons_append, List.map_cons, List.map_nil, mpRec, n0, n1, n2]; rfl) (by rfl) ?_
 refine Z1 w ?_
 refine onCallD_pureX (b := true) [] (fun hp1 h1 => by exact (PW.cons (ToXA.d (ToXV.one (ToX.rbE 2 (ToX.one (b' := true) (is := []) rfl (fun _ => rfl)) (by rfl)) rfl)) (PW.cons (ToXA.d (ToXV.agP (PW.cons (ToX.one (b' := false) (is := []) rfl (fun _ => rfl)) (PW.cons (ToX.one (b' := false) (is := []) rfl (fun _ => rfl)) PW.nil)))) (PW.cons (ToXA.d (ToXV.one (ToX.one (b' := false) (is := []) rfl (fun _ => rfl)) rfl)) PW.nil)))) (PureA.of_pure (look_left_Subs_ok h3)) ?_
 refine Z1 w ?_
 refine ZD0 (slices_Contains_Sub_ok h4) ?_
 cases c with
 | true =>
  refine Z1 w ?_
  refine Rd_endF (by rfl) ?_
  refine Z1 w ?_
  exact ⟨_, hp, rfl, by rw [← e1]; exact less, rfl, rfl, rfl⟩
 | false =>
  refine Z1 w ?_
  rw [← e1]
  refine onCallD_one (δ := []) g2 ?_
  refine Z0 ?_
  refine Rd_endF (by rfl) ?_
  refine Z0 ?_
  exact ⟨_, hp, rfl, less, rfl, rfl, rfl⟩
end Go.Proofs.YtachgkhleoodaaaGreat.Ab
