/-
 The search, solved: the walk.
-/
import Derived.Test.YtjkdbakgnnhdnaaGreatSk9
namespace Go.Proofs.YtjkdbakgnnhdnaaGreat.Ab
open Go.RowKit
def addAb (d r : GRef) (N : List PN) : List PN := N.map fun n => if d == n.k then { n with above := n.above ++ [r] } else n
def setIs (d : GRef) (N : List PN) : List PN := N.map fun n => if d == n.k then { n with is := true } else n
def aboD (r : GRef) : List GRef → List PN → Option (List PN)
 | [], N => some N
 | d :: l, N => (findP d N).bind fun n => if n.above.length < 4294967296 then aboD r l (addAb d r N) else none
def aboM : List GRef → List PN → Option (List PN)
 | [], N => some N
 | r :: l, N => (findP r N).bind fun n => if n.deps.length ≤ 4294967296 then (aboD r n.deps N).bind fun N => aboM l N else none
def workM (nw : List PN → GRef → Option Bool) (rank : Int) : Nat → List PN → List GRef → Option (List PN)
 | 0, _, _ => none
 | _ + 1, N, [] => some N
 | f + 1, N, r :: w => (findP r N).bind fun x => if x.rank != rank then workM nw rank f N w else if x.is then workM nw rank f N w else (nw N r).bind fun b => if b then (if w.length + x.above.length ≤ 4294967296 then workM nw rank f (setIs r N) (x.above.reverse ++ w) else none) else workM nw rank f N w
def rankM (nw : List PN → GRef → Option Bool) (f : Nat) : List GRef → List PN → Option (List PN)
 | [], N => some N
 | r :: l, N => (findP r N).bind fun x => (workM nw x.rank f N [r]).bind fun N => rankM nw f l N
def updN (d : GRef) (n' : Nd) (N : List Nd) : List Nd := N.map fun x => if d == x.k then n' else x
theorem updN_mem {d : GRef} {n' : Nd} {N : List Nd} {x : Nd} (h : x ∈ updN d n' N) : (x = n' ∧ ∃ y ∈ N, y.k = d) ∨ (x ∈ N ∧ x.k ≠ d) := by
 obtain ⟨y, h1, h2⟩ := List.mem_map.1 h
 by_cases e : (d == y.k) = true
 ·rw [if_pos e] at h2
  exact .inl ⟨h2.symm, y, h1, (eq_of_beq e).symm⟩
 ·rw [if_neg e] at h2
  subst h2
  exact .inr ⟨h1, fun e2 => e (by rw [e2]; exact beq_self_eq_true _)⟩
theorem updN_ix {d : GRef} {n n' : Nd} (hk : n'.k = n.k) (hi : n'.id = n.id) : ∀ {N : List Nd}, (∀ x ∈ N, x.k = d → x = n) → ixN (updN d n' N) = ixN N
 | [], _ => rfl
 | x :: l, h => by
  have ih := updN_ix (n' := n') hk hi (N := l) fun y hy => h y (List.mem_cons_of_mem _ hy)
  show (_, _) :: ixN (updN d n' l) = (_, _) :: ixN l
  rw [ih]
  dsimp only
  by_cases e : (d == x.k) = true
  ·have := h x (List.mem_cons_self ..) (eq_of_beq e).symm
   rw [if_pos e, hk, hi, this]
  ·rw [if_neg e]
theorem keys_inj {N : List Nd} (h : (N.map (·.k)).Nodup) {x y : Nd} (hx : x ∈ N) (hy : y ∈ N) (e : x.k = y.k) : x = y := by
 induction N with
 | nil => cases hx
 | cons a l ih =>
  rw [List.map_cons, List.nodup_cons] at h
  rcases List.mem_cons.1 hx with h1 | h1 <;> rcases List.mem_cons.1 hy with h2 | h2
  ·rw [h1, h2]
  ·rw [h1] at e
   exact absurd (e ▸ List.mem_map_of_mem h2) h.1
  ·rw [h2] at e
   exact absurd (e ▸ List.mem_map_of_mem h1) h.1
  ·exact ih h.2 h1 h2
theorem ids_inj {N : List Nd} (h : (N.map (·.id)).Nodup) {x y : Nd} (hx : x ∈ N) (hy : y ∈ N) (e : x.id = y.id) : x = y := by
 induction N with
 | nil => cases hx
 | cons a l ih =>
  rw [List.map_cons, List.nodup_cons] at h
  rcases List.mem_cons.1 hx with h1 | h1 <;> rcases List.mem_cons.1 hy with h2 | h2
  ·rw [h1, h2]
  ·rw [h1] at e
   exact absurd (e ▸ List.mem_map_of_mem h2) h.1
  ·rw [h2] at e
   exact absurd (e ▸ List.mem_map_of_mem h1) h.1
  ·exact ih h.2 h1 h2
theorem ixN_k {N M : List Nd} (h : ixN M = ixN N) : M.map (·.k) = N.map (·.k) := by
 have := congrArg (List.map Prod.fst) h
 simpa [ixN, Function.comp_def] using this
theorem ixN_id {N M : List Nd} (h : ixN M = ixN N) : M.map (·.id) = N.map (·.id) := by
 have := congrArg (List.map Prod.snd) h
 simp only [ixN, List.map_map] at this
 have := congrArg (List.map fun o => o.getD 0) this
 simpa [Function.comp_def] using this
theorem InvN.set {hp hp' : Hp} {m : Nat} {d : GRef} {n n' : Nd} {N : List Nd} (h : InvN hp m N) (hf : findN d N = some n) (hk : n'.k = n.k) (hi : n'.id = n.id) (em : hp' m = hp m) (eb : hp' n.id = some (boxN n'))
  (eo : ∀ x ∈ N, x.k ≠ d → hp' x.id = hp x.id) (er : n'.above ≠ [] → hp' n'.rid = accO 3 n'.ver false (n'.above.map eGRef)) (eq : ∀ x ∈ N, x.k ≠ d → x.above ≠ [] → hp' x.rid = hp x.rid ∧ (n'.above ≠ [] → n'.rid ≠ x.rid)) : InvN hp' m (updN d n' N) := by
 obtain ⟨hn, hd⟩ := findN_mem hf
 have hix := updN_ix (n' := n') hk hi (N := N) fun x hx e => keys_inj h.keys hx hn (e.trans hd.symm)
 refine ⟨?_, fun x hx => ?_, fun x hx ha => ?_, ?_, ?_, fun x hx y hy h1 h2 e => ?_⟩
 ·rw [em, h.map]
  unfold mapN
  rw [hix]
 ·rcases updN_mem hx with ⟨e1, _⟩ | ⟨hx2, hne⟩
  ·rw [e1, hi, eb]
  ·rw [eo x hx2 hne, h.box x hx2]
 ·rcases updN_mem hx with ⟨e1, _⟩ | ⟨hx2, hne⟩
  ·rw [e1] at ha ⊢
   exact er ha
  ·rw [(eq x hx2 hne ha).1, h.row x hx2 ha]
 ·rw [ixN_k hix]
  exact h.keys
 ·rw [ixN_id hix]
  exact h.ids
 ·rcases updN_mem hx with ⟨e1, _⟩ | ⟨hx2, hne⟩ <;> rcases updN_mem hy with ⟨e2, _⟩ | ⟨hy2, hne2⟩
  ·rw [e1, e2]
  ·rw [e1] at e h1
   exact absurd e ((eq y hy2 hne2 h2).2 h1)
  ·rw [e2] at e h2
   exact absurd e.symm ((eq x hx2 hne h1).2 h2)
  ·exact h.rids x hx2 y hy2 h1 h2 e
theorem pns_upd {d : GRef} {n n' : Nd} {g : PN → PN} (hg : n'.toPN = g n.toPN) : ∀ {N : List Nd}, (∀ x ∈ N, x.k = d → x = n) → pns (updN d n' N) = (pns N).map fun x => if d == x.k then g x else x
 | [], _ => rfl
 | x :: l, h => by
  have ih := pns_upd hg (N := l) fun y hy => h y (List.mem_cons_of_mem _ hy)
  show Nd.toPN _ :: pns (updN d n' l) = _ :: (pns l).map _
  rw [ih]
  dsimp only
  by_cases e : (d == x.k) = true
  ·have := h x (List.mem_cons_self ..) (eq_of_beq e).symm
   rw [if_pos e, if_pos e, hg, this]
  ·rw [if_neg e, if_neg e]
end Go.Proofs.YtjkdbakgnnhdnaaGreat.Ab
namespace Go.Proofs.YtjkdbakgnnhdnaaGreat.Ab
open Go.RowKit
abbrev boxO (G : SeekGraph) (s1 s2 s3 : AV) (m oid over : Nat) (ord : List GRef) : AO := .bx [.d (.pt (eSeekGraph G) 0) true, s1, s2, s3, .mo m, accV oid over (ord.map eGRef)]
abbrev boxR (r : GRef) : AO := .bx [.v (.string r.obj.type_), .v (.string r.obj.id_), .v (.string r.rel)]
abbrev agR (r : GRef) : AV := .ag [.v (.string r.obj.type_), .v (.string r.obj.id_), .v (.string r.rel)]
def SortsTo (cf : GRef → GRef → Int) (xs ys : List GRef) : Prop :=
 ∀ (g : FuncId) (caps : List AV) (S : GRef → Prop) (ids : List Nat) (hp0 : Hp) (br : Bool) (i ver : Nat), CmpS Tryz.prog g caps (fun r : GRef => .d (.ag (eGRef r)) br) S cf ids hp0 → i ∉ ids → (∀ x ∈ xs, S x) → ∀ (hp : Hp) (nx : Nat), (∀ j ∈ ids, hp j = hp0 j) → hp i = rowA xs ver br →
  InlOK Tryz.prog 43 [.so i ver 0 xs.length, .fn g caps] hp nx fun v hp2 nx2 => v = .tu [] ∧ hp2 = upd i (rowA ys ver br) hp ∧ nx ≤ nx2
def NowOK (G : SeekGraph) (s1 s2 s3 : AV) (nw : List PN → GRef → Option Bool) : Prop :=
 ∀ (hp : Hp) (nx q m : Nat) (o : AV) (N : List Nd) (r : GRef) (b : Bool), (∀ j, nx ≤ j → hp j = none) → hp q = some (.bx [.d (.pt (eSeekGraph G) 0) true, s1, s2, s3, .mo m, o]) → InvN hp m N → nw (pns N) r = some b →
  InlOK Tryz.prog 46 [.pt q 0, agR r] hp nx fun v hp2 nx2 => v = .v (.bool b) ∧ hp2 = hp ∧ nx ≤ nx2
structure SInv (G : SeekGraph) (hp0 : Hp) (nx0 q m oid over : Nat) (ord : List GRef) (N0 : List Nd) (s1 s2 s3 : AV) (hp : Hp) (nx : Nat) (N : List Nd) : Prop where
 new : ∀ j, nx ≤ j → hp j = none
 box : hp q = some (boxO G s1 s2 s3 m oid over ord)
 cb : hp nx0 = some (.bx [.pt q 0])
 row : hp oid = rowA ord over false
 nodes : InvN hp m N
 osep : oid ∉ ridsN N
 rnew : ∀ i ∈ ridsN N, nx0 ≤ i
 ix : ixN N = ixN N0
 keep : ∀ i, hp0 i ≠ none → (∀ n ∈ N0, n.id ≠ i) → i ≠ oid → hp i = hp0 i
 nxs : nx0 < nx
 old : ∀ i, nx0 ≤ i → hp0 i = none
theorem InvN.bx {hp : Hp} {m : Nat} {N : List Nd} {r : GRef} {n : Nd} (h : InvN hp m N) (hf : findN r N = some n) : hp n.id = some (.bx [.v (.int .i64 n.rank), .d (.sl (n.deps.map eGRef)) false, accV n.rid n.ver (n.above.map eGRef), .v (.bool n.is)]) := h.box n (findN_mem hf).1
theorem kind_ne {hp : Hp} {i j : Nat} {x y : AO} (hi : hp i = some x) (hj : hp j = some y) (h : x = y → False) : i ≠ j := fun e => by
 subst e
 rw [hi] at hj
 exact h (Option.some.inj hj)
theorem SInv.more {G : SeekGraph} {hp0 hp hp' : Hp} {nx0 q m oid over nx nx' : Nat} {ord : List GRef} {N0 N : List Nd} {s1 s2 s3 : AV} (h : SInv G hp0 nx0 q m oid over ord N0 s1 s2 s3 hp nx N) (e : ∀ i, i < nx → hp' i = hp i) (hn : nx ≤ nx') (hnew : ∀ j, nx' ≤ j → hp' j = none) : SInv G hp0 nx0 q m oid over ord N0 s1 s2 s3 hp' nx' N where
 new := hnew
 box := (e _ (lt_new h.new h.box)).trans h.box
 cb := (e _ (lt_new h.new h.cb)).trans h.cb
 row := (e _ (lt_new h.new h.row)).trans h.row
 nodes := h.nodes.more (e _ (lt_new h.new h.nodes.map)) (fun n hn => e _ (lt_new h.new (h.nodes.box n hn))) fun n hn ha => e _ (lt_new h.new ((h.nodes.row n hn ha).trans (accO_some ha)))
 osep := h.osep
 rnew := h.rnew
 ix := h.ix
 keep := fun i h1 h2 h3 => by
  have h4 := h.keep i h1 h2 h3
  rcases Nat.lt_or_ge i nx with h5 | h5
  ·exact (e i h5).trans h4
  ·rw [h.new i h5] at h4
   exact absurd h4.symm h1
 nxs := Nat.lt_of_lt_of_le h.nxs hn
 old := h.old
theorem SInv.set {G : SeekGraph} {hp0 hp hp' : Hp} {nx0 q m oid over nx nx' : Nat} {ord : List GRef} {N0 N : List Nd} {s1 s2 s3 : AV} (h : SInv G hp0 nx0 q m oid over ord N0 s1 s2 s3 hp nx N) {d : GRef} {n n' : Nd} (hf : findN d N = some n) (hk : n'.k = n.k) (hi : n'.id = n.id)
  (e : ∀ i, i < nx → i ≠ n.id → (n.above ≠ [] → i ≠ n.rid) → hp' i = hp i) (eb : hp' n.id = some (boxN n')) (er : n'.above ≠ [] → hp' n'.rid = accO 3 n'.ver false (n'.above.map eGRef)) (el : n'.above ≠ [] → (n.above ≠ [] ∧ n'.rid = n.rid) ∨ nx ≤ n'.rid)
  (hn : nx ≤ nx') (hnew : ∀ j, nx' ≤ j → hp' j = none) : SInv G hp0 nx0 q m oid over ord N0 s1 s2 s3 hp' nx' (updN d n' N) := by
 obtain ⟨hm, hd⟩ := findN_mem hf
 have hb := h.nodes.box n hm
 have hr := h.nodes.row n hm
 have nr : ∀ (i : Nat) (x : AO), hp i = some x → (∀ es sz v b f, x ≠ .rw es sz v b f) → n.above ≠ [] → i ≠ n.rid := fun i x h1 h2 h3 => kind_ne h1 ((hr h3).trans (accO_some h3)) fun e => h2 _ _ _ _ _ e
 have hix := updN_ix (n' := n') hk hi (N := N) fun x hx e => keys_inj h.nodes.keys hx hm (e.trans hd.symm)
 have erid : ∀ i ∈ ridsN (updN d n' N), (i ∈ ridsN N) ∨ nx ≤ i := fun i hi => by
  obtain ⟨x, h1, h2, h3⟩ := ridsN_mem hi
  rcases updN_mem h1 with ⟨e1, _⟩ | ⟨hx, _⟩
  ·rw [e1] at h2 h3
   rcases el h2 with ⟨h4, h5⟩ | h4
   ·exact .inl (h3 ▸ h5 ▸ mem_ridsN hm h4)
   ·exact .inr (h3 ▸ h4)
  ·exact .inl (h3 ▸ mem_ridsN hx h2)
 refine ⟨hnew, ?_, ?_, ?_, ?_, fun ho => ?_, fun i hi => ?_, hix.trans h.ix, fun i h1 h2 h3 => ?_, Nat.lt_of_lt_of_le h.nxs hn, h.old⟩
 ·rw [e q (lt_new h.new h.box) (kind_ne h.box hb fun e => by cases e) (nr q _ h.box fun _ _ _ _ _ e => by cases e), h.box]
 ·rw [e nx0 h.nxs (kind_ne h.cb hb fun e => by cases e) (nr nx0 _ h.cb fun _ _ _ _ _ e => by cases e), h.cb]
 ·rw [e oid (lt_new h.new h.row) (kind_ne h.row hb fun e => by cases e) fun ha e => h.osep (e ▸ mem_ridsN hm ha), h.row]
 ·refine h.nodes.set hf hk hi (e m (lt_new h.new h.nodes.map) (kind_ne h.nodes.map hb fun e => by cases e) (nr m _ h.nodes.map fun _ _ _ _ _ e => by cases e)) eb (fun x hx hne => e x.id (lt_new h.new (h.nodes.box x hx)) (fun e => hne ((congrArg (·.k) (ids_inj h.nodes.ids hx hm e)).trans hd)) (nr x.id _ (h.nodes.box x hx) fun _ _ _ _ _ e => by cases e)) er fun x hx hne ha => ?_
  have hxr := (h.nodes.row x hx ha).trans (accO_some ha)
  have lx := lt_new h.new hxr
  have hne2 : n.above ≠ [] → x.rid ≠ n.rid := fun ha2 e => hne ((h.nodes.rids x hx n hm ha ha2 e).trans hd)
  refine ⟨e x.rid lx (kind_ne hxr hb fun e => by cases e) hne2, fun ha2 e => ?_⟩
  rcases el ha2 with ⟨h4, h5⟩ | h4
  ·exact hne2 h4 (e.symm.trans h5)
  ·omega
 ·rcases erid _ ho with h1 | h1
  ·exact h.osep h1
  ·have := lt_new h.new h.row
   omega
 ·rcases erid _ hi with h1 | h1
  ·exact h.rnew _ h1
  ·have := h.nxs
   omega
 ·have h4 := h.keep i h1 h2 h3
  have hi : i < nx := by
   rcases Nat.lt_or_ge i nx with h5 | h5
   ·exact h5
   ·rw [h.new i h5] at h4
    exact absurd h4.symm h1
  rw [e i hi (fun e => by
   have h5 : n.id ∈ N0.map (·.id) := by
    rw [← ixN_id h.ix]
    exact List.mem_map_of_mem hm
   obtain ⟨y, h6, h7⟩ := List.mem_map.1 h5
   exact h2 y h6 (h7.trans e.symm)) fun ha e => ?_, h4]
  have h5 := h.rnew _ (mem_ridsN hm ha)
  rw [← e] at h5
  exact h1 (h.old i h5)
theorem SInv.updRow {G : SeekGraph} {hp0 hp : Hp} {nx0 q m oid over nx wid : Nat} {ord : List GRef} {N0 N : List Nd} {s1 s2 s3 : AV} {o : Option AO} {es : List (List D)} {sz ver : Nat} {br fz : Bool} (h : SInv G hp0 nx0 q m oid over ord N0 s1 s2 s3 hp nx N) (hw : hp wid = some (.rw es sz ver br fz)) (h1 : wid ∉ ridsN N) (h2 : wid ≠ oid) (h3 : nx0 ≤ wid) : SInv G hp0 nx0 q m oid over ord N0 s1 s2 s3 (upd wid o hp) nx N where
 new := fun j hj => by
  have := lt_new h.new hw
  rw [upd_ne _ _ (by omega)]
  exact h.new j hj
 box := (upd_ne _ _ (kind_ne h.box hw fun e => by cases e)).trans h.box
 cb := (upd_ne _ _ (kind_ne h.cb hw fun e => by cases e)).trans h.cb
 row := (upd_ne _ _ (Ne.symm h2)).trans h.row
 nodes := h.nodes.upd_row (.inr ⟨_, _, _, _, _, hw⟩) h1
 osep := h.osep
 rnew := h.rnew
 ix := h.ix
 keep := fun i e1 e2 e3 => by
  have := h.keep i e1 e2 e3
  rw [upd_ne _ _ fun e => by
   subst e
   exact e1 (h.old _ h3)]
  exact this
 nxs := h.nxs
 old := h.old
def nw3 (a b c i : Nat) : Nat := if i = a then 1 else if i = b then 2 else if i = c then 3 else 0
theorem nw3_no {a b c i : Nat} (h1 : i ≠ a) (h2 : i ≠ b) (h3 : i ≠ c) : nw3 a b c i = 0 := by unfold nw3; rw [if_neg h1, if_neg h2, if_neg h3]
set_option maxRecDepth 4000 in
theorem solve_ok {hp : Hp} {nx q m oid over f : Nat} {G : SeekGraph} {s1 s2 s3 : AV} {N : List Nd} {nw : List PN → GRef → Option Bool} {ord ord2 : List GRef} {P1 P2 : List PN} {rk : GRef → Int} (hnw : NowOK G s1 s2 s3 nw) (hf : ∀ j, nx ≤ j → hp j = none)
  (hq : hp q = some (boxO G s1 s2 s3 m oid over ord)) (ho : hp oid = rowA ord over false) (hne : ord ≠ []) (hL : ord.length < 4611686018427387904) (hN : InvN hp m N) (ha : ∀ n ∈ N, n.above = []) (h1 : aboM ord (pns N) = some P1) (hrk : ∀ n ∈ P1, rk n.k = n.rank) (hord : ∀ r ∈ ord, (findP r P1).isSome = true) (h2 : SortsTo (fun a b => cmpI (rk a) (rk b)) ord ord2) (hL2 : ord2.length = ord.length) (h3 : rankM nw f ord2 P1 = some P2) :
  InlOK Tryz.prog 26 [.pt q 0] hp nx fun v hp2 nx2 => v = .tu [] ∧ ∃ N2, pns N2 = P2 ∧ SInv G hp nx q m oid over ord2 N s1 s2 s3 hp2 nx2 N2 := by
 refine inl_runR tab_ok Tryz.func26 (by rfl) (by kernel_rfl) (by kernel_rfl) (by exact Nat.le_of_ble_eq_true rfl) ?_
 have w := And.intro (ne_new hf hq) (And.intro hq (YV (f := eGRef) (List.length_pos_iff.2 hne)))
 refine zsq (ZT 1 ?_)
 refine Z1 w ?_
 refine zsq (zsq ?_)
 refine ZT 1 ?_
 refine Z1 w ?_
 refine zbk ?_
 have hp1e : ∀ i, i < nx → upd nx (some (.bx [.pt q 0])) hp i = hp i := fun i hi => upd_ne _ _ (by omega)
 have S0 : SInv G hp nx q m oid over ord N s1 s2 s3 (upd nx (some (.bx [.pt q 0])) hp) (nx + 1 + 6) N :=
  {
   new := fun j hj => by rw [upd_ne _ _ (by omega)]; exact hf j (by omega)
   box := (hp1e _ (lt_new hf hq)).trans hq
   cb := upd_same ..
   row := (hp1e _ (lt_new hf ho)).trans ho
   nodes := hN.upd_new (hf nx (Nat.le_refl _))
   osep := fun h => by
    obtain ⟨n, h1, h2, _⟩ := ridsN_mem h
    exact h2 (ha n h1)
   rnew := fun i h => by
    obtain ⟨n, h1, h2, _⟩ := ridsN_mem h
    exact absurd (ha n h1) h2
   ix := rfl
   keep := fun i h _ _ => hp1e i (by
    rcases Nat.lt_or_ge i nx with h1 | h1
    ·exact h1
    ·exact absurd (hf i h1) h)
   nxs := by omega
   old := hf }
 refine zlp (α := { x : Nat × Hp × Nat × List Nd // x.1 ≤ ord.length ∧ SInv G hp nx q m oid over ord N s1 s2 s3 x.2.1 x.2.2.1 x.2.2.2 ∧ aboM (ord.drop x.1) (pns x.2.2.2) = some P1 })
  (fun x => ⟨upd 1 (.pt nx 0) (upd 15 (.so oid over 0 ord.length) (upd 16 (.v (.int .i64 (ord.length : Int))) (upd 17 (.v (.int .i64 (x.1.1 : Int))) noFr))), x.1.2.1, x.1.2.2.1⟩) (fun x => ord.length - x.1.1) ⟨(0, upd nx (some (.bx [.pt q 0])) hp, nx + 1 + 6, N), Nat.zero_le _, S0, h1⟩ ?_ ?_
 ·exact wkI (wk_upd rfl (wk_upd rfl (wk_upd rfl (wk_upd rfl (wk_no _)))))
 ·rintro ⟨⟨k, hp2, nx2, N2⟩, g1, g2, g3⟩
  dsimp only at g1 g2 g3
  refine zsq (ZT 1 ?_)
  by_cases hk : k < ord.length
  ·have c1 : (decide ((k : Int) < (ord.length : Int))) = true := decide_eq_true (by omega)
   refine Z1 c1 ?_
   refine zsq (ZT 1 ?_)
   refine Z0 ?_
   refine zsq (zbk ?_)
   refine zsq ?_
   obtain ⟨r, hr⟩ : ∃ r, ord[k]? = some r := ⟨_, List.getElem?_eq_getElem hk⟩
   rw [List.drop_eq_getElem_cons hk, show ord[k] = r from (List.getElem?_eq_some_iff.1 hr).2] at g3
   unfold aboM at g3
   obtain ⟨pn, pe, g3⟩ := zbi g3
   split at g3
   rotate_left
   ·cases g3
   rename_i hdl
   obtain ⟨Pm, g4, g3⟩ := zbi g3
   rw [findP_pns] at pe
   obtain ⟨n, e1, rfl⟩ := Option.map_eq_some_iff.1 pe
   have hk2 : (k < ord.length) = True := eq_true hk
   refine ZT 1 ?_
   refine Z1 (And.intro hk2 (And.intro g2.row (map_at eGRef hr))) ?_
   refine zsq ?_
   generalize e3 : upd (nx2 + 1 + 2) _ _ = hp3
   have g5 : SInv G hp nx q m oid over ord N s1 s2 s3 hp3 (nx2 + 1 + 4) N2 := g2.more (fun i hi => by rw [← e3, upd_ne _ _ (by omega), upd_ne _ _ (by omega)]) (by omega) fun j hj => by rw [← e3, upd_ne _ _ (by omega), upd_ne _ _ (by omega)]; exact g2.new j (by omega)
   have b3 : hp3 (nx2 + 1 + 2) = some (boxR r) := by rw [← e3, upd_same]
   refine ZT 1 ?_
   refine Z1 (And.intro g5.cb (And.intro g5.box (And.intro g5.nodes.map (And.intro b3 (And.intro (look_has e1) (g5.nodes.bx e1)))))) ?_
   refine Rd_endF (by rfl) ?_
   refine Z0 ?_
   refine zbk ?_
   refine zlp (α := { x : Nat × Hp × Nat × List Nd // x.1 ≤ n.deps.length ∧ SInv G hp nx q m oid over ord N s1 s2 s3 x.2.1 x.2.2.1 x.2.2.2 ∧ x.2.1 (nx2 + 1 + 2) = some (boxR r) ∧ aboD r (n.deps.drop x.1) (pns x.2.2.2) = some Pm })
    (fun x => ⟨upd 1 (.pt nx 0) (upd 3 (.pt (nx2 + 1 + 2) 0) (upd 29 (.d (.sl (n.deps.map eGRef)) false) (upd 30 (.v (.int .i64 (n.deps.length : Int))) (upd 31 (.v (.int .i64 (x.1.1 : Int))) (upd 15 (.so oid over 0 ord.length) (upd 16 (.v (.int .i64 (ord.length : Int))) (upd 17 (.v (.int .i64 (k : Int))) noFr))))))), x.1.2.1, x.1.2.2.1⟩) (fun x => n.deps.length - x.1.1) ⟨(0, hp3, nx2 + 1 + 4 + 11, N2), Nat.zero_le _, g5.more (fun _ _ => rfl) (by show _ ≤ nx2 + 1 + 4 + 11; omega) fun j (hj : nx2 + 1 + 4 + 11 ≤ j) => g5.new j (by omega), b3, g4⟩ ?_ ?_
   ·exact wkI (wk_upd rfl (wk_upd rfl (wk_upd rfl (wk_upd rfl (wk_upd rfl (wk_upd rfl (wk_upd rfl (wk_upd rfl (wk_no _)))))))))
   ·rintro ⟨⟨j, hp4, nx4, N4⟩, i1, i2, i3, i4⟩
    dsimp only at i1 i2 i3 i4
    refine zsq (ZT 1 ?_)
    by_cases hj : j < n.deps.length
    ·have c2 : (decide ((j : Int) < (n.deps.length : Int))) = true := decide_eq_true (by omega)
     refine Z1 c2 ?_
     refine zsq (ZT 1 ?_)
     refine Z0 ?_
     refine zsq (zbk ?_)
     refine zsq ?_
     obtain ⟨d, hd⟩ : ∃ d, n.deps[j]? = some d := ⟨_, List.getElem?_eq_getElem hj⟩
     rw [List.drop_eq_getElem_cons hj, show n.deps[j] = d from (List.getElem?_eq_some_iff.1 hd).2] at i4
     unfold aboD at i4
     obtain ⟨dn, pd, i4⟩ := zbi i4
     split at i4
     rotate_left
     ·cases i4
     rename_i hsm
     rw [findP_pns] at pd
     obtain ⟨n4, d1, rfl⟩ := Option.map_eq_some_iff.1 pd
     refine ZT 1 ?_
     refine Z1 (map_at eGRef hd) ?_
     generalize e5 : upd (nx4 + 1 + 2) _ _ = hp5
     have old5 : ∀ i, i < nx4 → hp5 i = hp4 i := fun i hi => by rw [← e5, upd_ne _ _ (by omega), upd_ne _ _ (by omega)]
     have i5 : SInv G hp nx q m oid over ord N s1 s2 s3 hp5 (nx4 + 1 + 4) N4 := i2.more old5 (by omega) fun j hj => by rw [← e5, upd_ne _ _ (by omega), upd_ne _ _ (by omega)]; exact i2.new j (by omega)
     have b5 : hp5 (nx4 + 1 + 2) = some (boxR d) := by rw [← e5, upd_same]
     have b35 : hp5 (nx2 + 1 + 2) = some (boxR r) := (old5 _ (lt_new i2.new i3)).trans i3
     have dm := (findN_mem d1).1
     obtain ⟨o', eo, ho', hoB, hoO⟩ : ∃ o', accV n4.rid n4.ver (n4.above.map eGRef) = accV o' n4.ver (n4.above.map eGRef) ∧ hp5 o' = accO 3 n4.ver false (n4.above.map eGRef) ∧ (∀ j, j < 100 → o' ≠ nx4 + 1 + 4 + j) ∧ (n4.above ≠ [] → o' = n4.rid) := by
      rcases hN0 : n4.above with _ | ⟨n1, N1⟩
      ·exact ⟨nx4 + 1 + 4 + 1000, rfl, i5.new _ (by omega), fun j hj => by omega, fun h => absurd rfl h⟩
      ·rw [← hN0]
       have h0 : n4.above ≠ [] := by rw [hN0]; exact fun h => by cases h
       have hrow := i5.nodes.row n4 dm h0
       have := lt_new i5.new (hrow.trans (accO_some h0))
       exact ⟨n4.rid, rfl, hrow, fun j hj => by omega, fun _ => rfl⟩
     obtain ⟨A, eA⟩ : ∃ A, A = accI (nx4 + 1 + 4 + 17) o' (n4.above.map eGRef) := ⟨_, rfl⟩
     have hA : ∀ (i : Nat) (y : AO), hp5 i = some y → (∀ es sz v b f, y ≠ .rw es sz v b f) → i ≠ A := fun i y hi hy e => by
      rw [e, eA] at hi
      cases hL : n4.above.map eGRef with
      | nil =>
       rw [hL] at hi
       have := i5.new (nx4 + 1 + 4 + 17) (by omega)
       rw [show hp5 (nx4 + 1 + 4 + 17) = some y from hi] at this
       cases this
      | cons c0 l0 =>
       rw [hL] at hi ho'
       rw [show hp5 o' = some y from hi] at ho'
       cases ho'
       exact hy _ _ _ _ _ rfl
     have box4 := i5.nodes.bx d1
     rw [eo] at box4
     have hiA := hA _ _ box4 fun _ _ _ _ _ e => by cases e
     have hsA : nx4 + 1 + 4 + 16 ≠ A := by
      rw [eA]
      cases hL : n4.above.map eGRef with
      | nil => show nx4 + 1 + 4 + 16 ≠ nx4 + 1 + 4 + 17; omega
      | cons _ _ => exact (hoB 16 (by omega)).symm
     have nX : ∀ {i : Nat} {o : AO}, hp5 i = some o → (i = nx4 + 1 + 4 + 16) = False := fun h => eq_false (by have := lt_new i5.new h; omega)
     have w7 := And.intro i5.cb <| And.intro i5.box <| And.intro i5.nodes.map <| And.intro b5 <| And.intro b35 <| And.intro (look_has d1) <| And.intro box4 <| And.intro ho' <| And.intro (show (o' = nx4 + 1 + 4 + 16) = False from eq_false (hoB 16 (by omega))) <| And.intro (nX i5.cb) <| And.intro (nX i5.box) <| And.intro (nX i5.nodes.map) <| And.intro (nX b5) <| And.intro (nX b35) <| And.intro (nX box4) <|
      And.intro (show (n4.id = accI (nx4 + 1 + 4 + 17) o' (n4.above.map eGRef)) = False from eq_false (eA ▸ hiA)) (show (n4.above.length + 1 ≤ 4294967296) = True from eq_true (by have : n4.above.length < 4294967296 := hsm; omega))
     refine ZT 1 ?_
     refine Z1 w7 ?_
     rw [← eA]
     have v1 : nw3 n4.id A (nx4 + 1 + 4 + 16) n4.id = 1 := by simp [nw3]
     have v2 : nw3 n4.id A (nx4 + 1 + 4 + 16) A = 2 := by simp [nw3, Ne.symm hiA]
     have v3 : nw3 n4.id A (nx4 + 1 + 4 + 16) (nx4 + 1 + 4 + 16) = 3 := by unfold nw3; rw [if_neg (fun e => (nX box4).mp e.symm), if_neg hsA, if_pos rfl]
     have vo : ∀ (i : Nat) (y : AO), hp5 i = some y → (∀ es sz v b f, y ≠ .rw es sz v b f) → y ≠ .bx [.v (.int .i64 n4.rank), .d (.sl (n4.deps.map eGRef)) false, accV o' n4.ver (n4.above.map eGRef), .v (.bool n4.is)] → nw3 n4.id A (nx4 + 1 + 4 + 16) i = 0 := fun i y h1 h2 h3 => nw3_no (kind_ne h1 box4 h3) (hA i y h1 h2) fun e => (nX h1).mp e
     have v4 := vo _ _ i5.cb (fun _ _ _ _ _ e => by cases e) fun e => by cases e
     have v5 := vo _ _ i5.box (fun _ _ _ _ _ e => by cases e) fun e => by cases e
     have v6 := vo _ _ i5.nodes.map (fun _ _ _ _ _ e => by cases e) fun e => by cases e
     have v7 := vo _ _ b5 (fun _ _ _ _ _ e => by cases e) fun e => by cases e
     have v8 := vo _ _ b35 (fun _ _ _ _ _ e => by cases e) fun e => by cases e
     refine Rd_endM (nw3 n4.id A (nx4 + 1 + 4 + 16)) _ rfl (by simp only [List.reverse_cons, List.reverse_nil, List.nil_append, List.cons_append, List.map_cons, List.map_nil, mpRec, v1, v2, v3, v4, v5, v6, v7, v8]; rfl) (by rfl) ?_
     refine Z0 ?_
     generalize e6 : upd n4.id _ _ = hp6
     refine ZT 1 ?_
     have hdl2 : n.deps.length ≤ 4294967296 := hdl
     refine Z1 (w64a (show j + 1 < 4611686018427387904 by omega)) ?_
     have hAlt : A < nx4 + 1 + 4 + 21 ∧ ((n4.above ≠ [] ∧ A = n4.rid) ∨ nx4 + 1 + 4 ≤ A) := by
      rw [eA]
      rcases hN0 : n4.above with _ | ⟨n1, N1⟩
      ·exact ⟨by show nx4 + 1 + 4 + 17 < _; omega, .inr (by show _ ≤ nx4 + 1 + 4 + 17; omega)⟩
      ·have h0 : n4.above ≠ [] := by rw [hN0]; exact fun h => by cases h
       have := lt_new i5.new ((i5.nodes.row n4 dm h0).trans (accO_some h0))
       refine ⟨?_, .inl ⟨fun h => (by cases h), hoO h0⟩⟩
       show o' < _
       rw [hoO h0]
       omega
     have j5 : SInv G hp nx q m oid over ord N s1 s2 s3 hp6 (nx4 + 1 + 4 + 21 + 2) (updN d { n4 with above := n4.above ++ [r], rid := A, ver := accN n4.ver (n4.above.map eGRef) } N4) := by
      refine i5.set d1 rfl rfl (fun i l1 l2 l3 => ?_) ?_ (fun _ => ?_) (fun _ => hAlt.2) (by omega) fun j hj => ?_
      ·have hiA : i ≠ A := fun e => by
        rcases hAlt.2 with ⟨h1, h2⟩ | h1
        ·exact l3 h1 (e.trans h2)
        ·omega
       rw [← e6, upd_ne _ _ l2, upd_ne _ _ hiA, upd_ne _ _ (by omega)]
      ·rw [← e6, upd_same]
       unfold boxN
       rw [accV_pos (by simp)]
       simp
      ·show hp6 A = accO 3 (accN n4.ver (n4.above.map eGRef)) false ((n4.above ++ [r]).map eGRef)
       rw [← e6, upd_ne _ _ (Ne.symm hiA), upd_same, accO_pos (by simp)]
       simp
      ·have := lt_new i5.new box4
       have := hAlt.1
       rw [← e6, upd_ne _ _ (by omega), upd_ne _ _ (by omega), upd_ne _ _ (by omega)]
       exact i5.new j (by omega)
     have j3 : hp6 (nx2 + 1 + 2) = some (boxR r) := by
      rw [← e6, upd_ne _ _ (kind_ne b35 box4 fun e => by cases e), upd_ne _ _ (hA _ _ b35 fun _ _ _ _ _ e => by cases e), upd_ne _ _ fun e => (nX b35).mp e]
      exact b35
     refine ⟨⟨(j + 1, hp6, _, _), by show j + 1 ≤ n.deps.length; omega, j5, j3, ?_⟩, wkI (wk_upd rfl (wk_upd rfl (wk_upd rfl (wk_upd rfl (wk_upd rfl (wk_upd rfl (wk_upd rfl (wk_upd rfl (wk_no _))))))))), by show n.deps.length - (j + 1) < n.deps.length - j; omega⟩
     have pu : pns (updN d { n4 with above := n4.above ++ [r], rid := A, ver := accN n4.ver (n4.above.map eGRef) } N4) = addAb d r (pns N4) := pns_upd (n := n4) (g := fun x => { x with above := x.above ++ [r] }) rfl fun x hx e => keys_inj i5.nodes.keys hx dm (e.trans (findN_mem d1).2.symm)
     exact (congrArg (aboD r (n.deps.drop (j + 1))) pu).trans i4
    ·have c2 : (decide ((j : Int) < (n.deps.length : Int))) = false := decide_eq_false (by omega)
     refine Z1 c2 ?_
     refine ZT 1 ?_
     refine Z0 ?_
     refine ZT 1 ?_
     refine Z1 (w64a (show k + 1 < 4611686018427387904 by omega)) ?_
     rw [List.drop_eq_nil_of_le (by omega)] at i4
     cases i4
     exact ⟨⟨(k + 1, hp4, _, N4), by show k + 1 ≤ ord.length; omega, i2.more (fun _ _ => rfl) (by show nx4 ≤ nx4 + 1 + 2; omega) (fun j (hj : nx4 + 1 + 2 ≤ j) => i2.new j (by omega)), g3⟩, wkI (wk_upd rfl (wk_upd rfl (wk_upd rfl (wk_upd rfl (wk_no _))))), by show ord.length - (k + 1) < ord.length - k; omega⟩
  ·have c1 : (decide ((k : Int) < (ord.length : Int))) = false := decide_eq_false (by omega)
   refine Z1 c1 ?_
   refine ZT 1 ?_
   refine Z0 ?_
   rw [List.drop_eq_nil_of_le (by omega)] at g3
   have g3 : pns N2 = P1 := Option.some.inj g3
   refine zsq (ZT 1 ?_)
   refine Z1 (And.intro g2.cb (And.intro g2.box (YV (f := eGRef) (List.length_pos_iff.2 hne)))) ?_
   have hmem : ∀ r ∈ ord, ∃ id x1 x2 x3, NodeAt (mapN N2) r id ∧ hp2 id = some (.bx [.v (.int .i64 (rk r)), x1, x2, x3]) ∧ id ∈ N2.map (·.id) := fun r hr => by
    obtain ⟨pn, hpn⟩ := Option.isSome_iff_exists.1 (hord r hr)
    rw [← g3, findP_pns] at hpn
    obtain ⟨n2, e1, rfl⟩ := Option.map_eq_some_iff.1 hpn
    obtain ⟨e2, e3⟩ := findN_mem e1
    have e4 := hrk n2.toPN (g3 ▸ List.mem_map_of_mem e2)
    have e5 := g2.nodes.bx e1
    rw [show n2.rank = rk r from e3 ▸ e4.symm] at e5
    exact ⟨n2.id, _, _, _, look_has e1, e5, List.mem_map_of_mem e2⟩
   have hoid : oid ∉ nx :: q :: m :: N2.map (·.id) := fun h => by
    rcases List.mem_cons.1 h with h | h
    ·exact kind_ne g2.row g2.cb (fun e => by cases e) h
    rcases List.mem_cons.1 h with h | h
    ·exact kind_ne g2.row g2.box (fun e => by cases e) h
    rcases List.mem_cons.1 h with h | h
    ·exact kind_ne g2.row g2.nodes.map (fun e => by cases e) h
    obtain ⟨n2, e1, e2⟩ := List.mem_map.1 h
    exact kind_ne g2.row (g2.nodes.box n2 e1) (fun e => by cases e) e2.symm
   refine onCall_inl (InlOK.mono (h2 44 [.pt nx 0] _ _ hp2 false oid over (cmp1_ok (rk := rk) (ids := N2.map (·.id)) g2.cb g2.box g2.nodes.map) hoid hmem hp2 _ (fun _ _ => rfl) g2.row) fun v hp4 nx4 h => ?_)
   obtain ⟨rfl, rfl, h⟩ := h
   have h : nx2 + 1 + 6 ≤ nx4 := h
   have hne2 : ord2 ≠ [] := fun e => hne (List.length_eq_zero_iff.1 (by rw [← hL2, e]; rfl))
   have i4 : SInv G hp nx q m oid over ord2 N s1 s2 s3 (upd oid (rowA ord2 over false) hp2) nx4 N2 :=
    {
     new := fun j hj => by
      have := lt_new g2.new g2.row
      rw [upd_ne _ _ (by omega)]
      exact g2.new j (by omega)
     box := by
      rw [upd_ne _ _ (kind_ne g2.box g2.row fun e => by cases e), g2.box]
      unfold boxO
      rw [accV_pos (List.length_pos_iff.2 hne), accV_pos (List.length_pos_iff.2 hne2), hL2]
     cb := (upd_ne _ _ (kind_ne g2.cb g2.row fun e => by cases e)).trans g2.cb
     row := upd_same ..
     nodes := g2.nodes.upd_row (.inr ⟨_, _, _, _, _, g2.row⟩) g2.osep
     osep := g2.osep
     rnew := g2.rnew
     ix := g2.ix
     keep := fun i e1 e2 e3 => (upd_ne _ _ e3).trans (g2.keep i e1 e2 e3)
     nxs := by have := g2.nxs; omega
     old := g2.old }
   rw [← g3] at h3
   generalize e4 : upd oid (rowA ord2 over false) hp2 = hp4 at i4 ⊢
   refine Z0 ?_
   refine zsq (ZT 1 ?_)
   refine Z1 (And.intro i4.cb (And.intro i4.box (YV (f := eGRef) (List.length_pos_iff.2 hne2)))) ?_
   refine zbk ?_
   refine zlp (α := { x : Nat × Hp × Nat × List Nd // x.1 ≤ ord2.length ∧ SInv G hp nx q m oid over ord2 N s1 s2 s3 x.2.1 x.2.2.1 x.2.2.2 ∧ rankM nw f (ord2.drop x.1) (pns x.2.2.2) = some P2 })
    (fun x => ⟨upd 1 (.pt nx 0) (upd 66 (.so oid over 0 ord2.length) (upd 67 (.v (.int .i64 (ord2.length : Int))) (upd 68 (.v (.int .i64 (x.1.1 : Int))) noFr))), x.1.2.1, x.1.2.2.1⟩) (fun x => ord2.length - x.1.1) ⟨(0, hp4, nx4 + 6, N2), Nat.zero_le _, i4.more (fun _ _ => rfl) (by show nx4 ≤ nx4 + 6; omega) (fun j (hj : nx4 + 6 ≤ j) => i4.new j (by omega)), h3⟩ ?_ ?_
   ·exact wkI (wk_upd rfl (wk_upd rfl (wk_upd rfl (wk_upd rfl (wk_no _)))))
   ·rintro ⟨⟨k, hp5, nx5, N5⟩, j1, j2, j3⟩
    dsimp only at j1 j2 j3
    refine zsq (ZT 1 ?_)
    by_cases hk5 : k < ord2.length
    ·have c1 : (decide ((k : Int) < (ord2.length : Int))) = true := decide_eq_true (by omega)
     refine Z1 c1 ?_
     refine zsq (ZT 1 ?_)
     refine Z0 ?_
     refine zsq (zbk ?_)
     refine zsq ?_
     obtain ⟨r, hr⟩ : ∃ r, ord2[k]? = some r := ⟨_, List.getElem?_eq_getElem hk5⟩
     rw [List.drop_eq_getElem_cons hk5, show ord2[k] = r from (List.getElem?_eq_some_iff.1 hr).2] at j3
     unfold rankM at j3
     obtain ⟨pn, pe, j3⟩ := zbi j3
     obtain ⟨Pm, j4, j9⟩ := zbi j3
     rw [findP_pns] at pe
     obtain ⟨n, e1, rfl⟩ := Option.map_eq_some_iff.1 pe
     refine ZT 1 ?_
     refine Z1 (And.intro (show (k < ord2.length) = True from eq_true hk5) (And.intro j2.row (map_at eGRef hr))) ?_
     generalize e6 : upd (nx5 + 1 + 2) _ _ = hp6
     have j6 : SInv G hp nx q m oid over ord2 N s1 s2 s3 hp6 (nx5 + 1 + 4) N5 := j2.more (fun i hi => by rw [← e6, upd_ne _ _ (by omega), upd_ne _ _ (by omega)]) (by omega) fun j hj => by rw [← e6, upd_ne _ _ (by omega), upd_ne _ _ (by omega)]; exact j2.new j (by omega)
     have b6 : hp6 (nx5 + 1 + 2) = some (boxR r) := by rw [← e6, upd_same]
     refine zsq (ZT 1 ?_)
     refine Z1 b6 ?_
     refine zsq ?_
     generalize e7 : upd (nx5 + 1 + 4 + 1) _ _ = hp7
     have old7 : ∀ i, i < nx5 + 1 + 4 → hp7 i = hp6 i := fun i hi => by rw [← e7, upd_ne _ _ (by omega)]
     have j7 : SInv G hp nx q m oid over ord2 N s1 s2 s3 hp7 (nx5 + 1 + 4 + 3) N5 := j6.more old7 (by omega) fun j hj => by rw [← e7, upd_ne _ _ (by omega)]; exact j6.new j (by omega)
     have b7 : hp7 (nx5 + 1 + 2) = some (boxR r) := (old7 _ (by omega)).trans b6
     have w7 : hp7 (nx5 + 1 + 4 + 1) = rowA [r] 0 false := by rw [← e7, upd_same]; rfl
     refine ZT 1 ?_
     refine Z1 (And.intro j7.cb (And.intro j7.box (And.intro j7.nodes.map (And.intro b7 (And.intro (look_has e1) (j7.nodes.bx e1)))))) ?_
     refine Rd_endF (by rfl) ?_
     refine Z0 ?_
     refine zbk ?_
     have wsep : nx5 + 1 + 4 + 1 ∉ ridsN N5 ∧ nx5 + 1 + 4 + 1 ≠ oid := ⟨fun h => by
      obtain ⟨x, h1, h2, h3⟩ := ridsN_mem h
      have := lt_new j6.new ((j6.nodes.row x h1 h2).trans (accO_some h2))
      omega, fun h => by
      have := lt_new j6.new j6.row
      omega⟩
     refine zlp (α := { x : RS // SInv G hp nx q m oid over ord2 N s1 s2 s3 x.hp x.nx x.N ∧ x.hp (nx5 + 1 + 4 + 1) = rowA x.es x.ver false ∧ nx5 + 1 + 4 + 1 ∉ ridsN x.N ∧ x.n ≤ x.es.length ∧ x.n ≤ 4294967296 ∧ workM nw n.rank x.c (pns x.N) (x.es.take x.n).reverse = some Pm })
      (fun x => ⟨upd 1 (.pt nx 0) (upd 8 (.so (nx5 + 1 + 4 + 1) x.1.ver 0 x.1.n) (upd 9 (.v (.int .i64 n.rank)) (upd 66 (.so oid over 0 ord2.length) (upd 67 (.v (.int .i64 (ord2.length : Int))) (upd 68 (.v (.int .i64 (k : Int))) noFr))))), x.1.hp, x.1.nx⟩) (fun x => x.1.c) ⟨⟨hp7, nx5 + 1 + 4 + 3 + 10, N5, 0, 0, 0, [r], 1, f⟩, j7.more (fun _ _ => rfl) (by show _ ≤ nx5 + 1 + 4 + 3 + 10; omega) (fun j (hj : nx5 + 1 + 4 + 3 + 10 ≤ j) => j7.new j (by omega)), w7, wsep.1, Nat.le_refl _, by show 1 ≤ 4294967296; omega, j4⟩ ?_ ?_
     ·exact wkI (wk_upd rfl (wk_upd rfl (wk_upd rfl (wk_upd rfl (wk_upd rfl (wk_upd rfl (wk_no _)))))))
     ·rintro ⟨x, k1, k2, k3, k4, k5, k6⟩
      obtain ⟨f2, hc⟩ : ∃ f2, x.c = f2 + 1 := by
       cases e : x.c with
       | zero => rw [e] at k6; cases k6
       | succ f => exact ⟨f, rfl⟩
      rw [hc] at k6
      refine zsq (zsq ?_)
      refine ZT 1 ?_
      refine Z0 ?_
      rcases hn : x.n with _ | l
      ·have c2 : (decide (((0 : Nat) : Int) > 0)) = false := rfl
       refine ZT 1 ?_
       refine Z1 hn ?_
       rw [hn] at k6
       have k6 : pns x.N = Pm := Option.some.inj k6
       refine ZT 1 ?_
       refine Z1 (w64a (show k + 1 < 4611686018427387904 by omega)) ?_
       exact ⟨⟨(k + 1, x.hp, _, x.N), by show k + 1 ≤ ord2.length; omega, k1.more (fun _ _ => rfl) (by show x.nx ≤ x.nx + 3 + 2; omega) (fun j (hj : x.nx + 3 + 2 ≤ j) => k1.new j (by omega)), by rw [← k6] at j9; exact j9⟩, wkI (wk_upd rfl (wk_upd rfl (wk_upd rfl (wk_upd rfl (wk_no _))))), by show ord2.length - (k + 1) < ord2.length - k; omega⟩
      ·have c2 : (decide (((l + 1 : Nat) : Int) > 0)) = true := decide_eq_true (by omega)
       have c3 : (decide ((0 : Int) < ((l + 1 : Nat) : Int))) = true := decide_eq_true (by omega)
       refine ZT 1 ?_
       refine Z1 (And.intro c2 c3) ?_
       refine zbk ?_
       refine zsq ?_
       have hl : l < x.es.length := by omega
       obtain ⟨r2, hr2⟩ : ∃ r2, x.es[l]? = some r2 := ⟨_, List.getElem?_eq_getElem hl⟩
       have h3 : IntKind.i64.wrap (((l + 1 : Nat) : Int) - 1) = (l : Int) := w64s (by omega)
       have h4 : (l < l + 1) = True := eq_true (Nat.lt_succ_self l)
       have h5 := map_at eGRef hr2
       have htk : (x.es.take (l + 1)).reverse = r2 :: (x.es.take l).reverse := by
        rw [List.take_add_one, hr2]
        simp
       rw [hn, htk] at k6
       unfold workM at k6
       obtain ⟨pd, pe2, k6⟩ := zbi k6
       rw [findP_pns] at pe2
       obtain ⟨nd, e2, rfl⟩ := Option.map_eq_some_iff.1 pe2
       refine ZT 1 ?_
       refine Z1 (And.intro hn (And.intro h3 (And.intro h4 (And.intro h5 k2)))) ?_
       refine zsq ?_
       generalize e8 : upd (x.nx + 3 + 6) _ _ = hp8
       have old8 : ∀ i, i < x.nx → hp8 i = x.hp i := fun i hi => by rw [← e8, upd_ne _ _ (by omega), upd_ne _ _ (by omega)]
       have j8 : SInv G hp nx q m oid over ord2 N s1 s2 s3 hp8 (x.nx + 3 + 8) x.N := k1.more old8 (by omega) fun j hj => by rw [← e8, upd_ne _ _ (by omega), upd_ne _ _ (by omega)]; exact k1.new j (by omega)
       have b8 : hp8 (x.nx + 3 + 6) = some (boxR r2) := by rw [← e8, upd_same]
       have w8 : hp8 (nx5 + 1 + 4 + 1) = rowA x.es x.ver false := (old8 _ (lt_new k1.new k2)).trans k2
       have h7 : (l ≤ l + 1) = True := eq_true (Nat.le_succ l)
       refine ZT 1 ?_
       refine Z1 (And.intro hn (And.intro h3 (And.intro h4 (And.intro h7 (And.intro (Nat.sub_zero l) w8))))) ?_
       refine zsq (ZT 1 ?_)
       refine Z1 (And.intro j8.cb (And.intro j8.box (And.intro j8.nodes.map (And.intro b8 (look_has e2))))) ?_
       refine Rd_endF (by rfl) ?_
       refine Z0 ?_
       refine zsq (zsq ?_)
       refine ZT 1 ?_
       have wb := And.intro j8.cb (And.intro j8.box (And.intro j8.nodes.map (And.intro b8 (j8.nodes.bx e2))))
       rcases hrk2 : (nd.rank != n.rank) with _ | _
       ·rw [show (nd.toPN.rank != n.rank) = false from hrk2, if_neg (by simp)] at k6
        rcases his : nd.is with _ | _
        ·rw [show nd.toPN.is = false from his, if_neg (by simp)] at k6
         obtain ⟨b, hb, k7⟩ := zbi k6
         rw [his] at wb
         refine Z1 (And.intro hrk2 wb) ?_
         have l2 := hnw hp8 (x.nx + 3 + 8 + 6 + 7 + 18) q m _ x.N r2 b (fun j hj => j8.new j (by omega)) j8.box j8.nodes hb
         refine onCall_inl (InlOK.mono l2 fun v hp9 nx9 hv => ?_)
         obtain ⟨rfl, hv2, l1⟩ := hv
         have hv2 := hv2.symm
         subst hv2
         have l1 : x.nx + 3 + 8 + 6 + 7 + 18 ≤ nx9 := l1
         have k6 := k7
         rcases b with _ | _
         ·rw [if_neg (by simp)] at k6
          refine Z0 ?_
          refine ZT 1 ?_
          refine Z0 ?_
          exact ⟨⟨⟨hp8, _, x.N, 0, 0, x.ver, x.es, l, f2⟩, j8.more (fun _ _ => rfl) (by show x.nx + 3 + 8 ≤ nx9; omega) (fun j (hj : nx9 ≤ j) => j8.new j (by omega)), w8, k3, by show l ≤ x.es.length; omega, by show l ≤ 4294967296; omega, k6⟩, wkI (wk_upd rfl (wk_upd rfl (wk_upd rfl (wk_upd rfl (wk_upd rfl (wk_upd rfl (wk_no _))))))), by show f2 < x.c; omega⟩
         ·rw [if_pos rfl] at k6
          split at k6
          rotate_left
          ·cases k6
          rename_i hsm
          refine Z0 ?_
          refine ZT 1 ?_
          refine Z0 ?_
          refine zsq (ZT 1 ?_)
          refine Z1 wb ?_
          generalize e10 : upd nd.id _ _ = hp10
          have bx8 := j8.nodes.bx e2
          have nm := (findN_mem e2).1
          have k1' : SInv G hp nx q m oid over ord2 N s1 s2 s3 hp10 (nx9 + 4) (updN r2 { nd with is := true } x.N) := by
           refine j8.set e2 rfl rfl (fun i q1 q2 q3 => by rw [← e10, upd_ne _ _ q2]) (by rw [← e10, upd_same]; rfl) (fun h => ?_) (fun h => .inl ⟨h, rfl⟩) (by omega) fun j hj => ?_
           ·have hrow := j8.nodes.row nd nm h
            rw [← e10]
            show upd nd.id _ hp8 nd.rid = accO 3 nd.ver false (nd.above.map eGRef)
            rw [upd_ne _ _ (kind_ne (hrow.trans (accO_some h)) bx8 fun e => by cases e)]
            exact hrow
           ·have := lt_new j8.new bx8
            rw [← e10, upd_ne _ _ (by omega)]
            exact j8.new j (by omega)
          have w10 : hp10 (nx5 + 1 + 4 + 1) = rowA x.es x.ver false := by
           rw [← e10, upd_ne _ _ (kind_ne w8 bx8 fun e => by cases e)]
           exact w8
          have r10 : nx5 + 1 + 4 + 1 ∉ ridsN (updN r2 { nd with is := true } x.N) := fun h => by
           obtain ⟨y, h1, h2, h3⟩ := ridsN_mem h
           rcases updN_mem h1 with ⟨e1, _⟩ | ⟨hy, _⟩
           ·rw [e1] at h2 h3
            exact k3 (h3 ▸ mem_ridsN (n := nd) nm h2)
           ·exact k3 (h3 ▸ mem_ridsN hy h2)
          have bx10 : hp10 nd.id = some (.bx [.v (.int .i64 nd.rank), .d (.sl (nd.deps.map eGRef)) false, accV nd.rid nd.ver (nd.above.map eGRef), .v (.bool true)]) := by rw [← e10, upd_same]
          obtain ⟨o', eo, ho'⟩ : ∃ o', accV nd.rid nd.ver (nd.above.map eGRef) = accV o' nd.ver (nd.above.map eGRef) ∧ hp10 o' = accO 3 nd.ver false (nd.above.map eGRef) := by
           rcases hN0 : nd.above with _ | ⟨n1, N1⟩
           ·exact ⟨nx9 + 1000, rfl, k1'.new _ (by omega)⟩
           ·rw [← hN0]
            have h0 : nd.above ≠ [] := by rw [hN0]; exact fun h => by cases h
            have hrow := j8.nodes.row nd nm h0
            refine ⟨nd.rid, rfl, ?_⟩
            rw [← e10, upd_ne _ _ (kind_ne (hrow.trans (accO_some h0)) bx8 fun e => by cases e)]
            exact hrow
          rw [eo] at bx10
          have hck : chk 3 (nd.above.map eGRef) = true := chk_map (f := eGRef) (fun _ => rfl) _
          refine ZT 1 ?_
          refine Z1 (And.intro bx10 (And.intro ho' (And.intro w10 (And.intro (show (l ≤ x.es.length) = True from eq_true (by omega)) (And.intro hck (show (l + nd.above.length ≤ 4294967296) = True from eq_true (by
           have : (x.es.take l).reverse.length + nd.above.length ≤ 4294967296 := hsm
           rw [List.length_reverse, List.length_take] at this
           omega))))))) ?_
          have hlen : (x.es.take l).length = l := by rw [List.length_take]; omega
          have hnl : l + nd.above.length ≤ 4294967296 := by
           have : (x.es.take l).reverse.length + nd.above.length ≤ 4294967296 := hsm
           rw [List.length_reverse, hlen] at this
           exact this
          generalize e11 : upd (nx5 + 1 + 4 + 1) _ hp10 = hp11
          have w11 : hp11 (nx5 + 1 + 4 + 1) = rowA (x.es.take l ++ nd.above) (x.ver + 1) false := by
           rw [← e11, upd_same, rowA, List.map_append, List.map_take]
          have k11 : SInv G hp nx q m oid over ord2 N s1 s2 s3 hp11 (nx9 + 4) (updN r2 { nd with is := true } x.N) := by
           rw [← e11]
           exact k1'.updRow w10 r10 wsep.2 (by have := j2.nxs; omega)
          have pu : pns (updN r2 { nd with is := true } x.N) = setIs r2 (pns x.N) := pns_upd (n := nd) (g := fun x => { x with is := true }) rfl fun y hy e => keys_inj j8.nodes.keys hy nm (e.trans (findN_mem e2).2.symm)
          refine ⟨⟨⟨hp11, _, updN r2 { nd with is := true } x.N, 0, 0, x.ver + 1, x.es.take l ++ nd.above, l + nd.above.length, f2⟩, k11.more (fun _ _ => rfl) (by show nx9 + 4 ≤ nx9 + 4 + 7; omega) (fun j (hj : nx9 + 4 + 7 ≤ j) => k11.new j (by omega)), w11, r10, ?_, hnl, ?_⟩, wkI (wk_upd rfl (wk_upd rfl (wk_upd rfl (wk_upd rfl (wk_upd rfl (wk_upd rfl (wk_no _))))))), by show f2 < x.c; omega⟩
          ·show l + nd.above.length ≤ (x.es.take l ++ nd.above).length
           rw [List.length_append, hlen]
           exact Nat.le_refl _
          ·show workM nw n.rank f2 (pns (updN r2 _ x.N)) (List.take (l + nd.above.length) (x.es.take l ++ nd.above)).reverse = some Pm
           rw [List.take_of_length_le (by rw [List.length_append, hlen]; exact Nat.le_refl _), List.reverse_append, pu]
           exact k6
        ·rw [show nd.toPN.is = true from his, if_pos rfl] at k6
         rw [his] at wb
         refine Z1 (And.intro hrk2 wb) ?_
         refine ZT 1 ?_
         refine Z0 ?_
         exact ⟨⟨⟨hp8, _, x.N, 0, 0, x.ver, x.es, l, f2⟩, j8.more (fun _ _ => rfl) (by show x.nx + 3 + 8 ≤ x.nx + 3 + 8 + 6 + 7 + 18; omega) (fun j (hj : x.nx + 3 + 8 + 6 + 7 + 18 ≤ j) => j8.new j (by omega)), w8, k3, by show l ≤ x.es.length; omega, by show l ≤ 4294967296; omega, k6⟩, wkI (wk_upd rfl (wk_upd rfl (wk_upd rfl (wk_upd rfl (wk_upd rfl (wk_upd rfl (wk_no _))))))), by show f2 < x.c; omega⟩
       ·rw [show (nd.toPN.rank != n.rank) = true from hrk2, if_pos rfl] at k6
        refine Z1 (And.intro hrk2 wb) ?_
        refine ZT 1 ?_
        refine Z0 ?_
        exact ⟨⟨⟨hp8, _, x.N, 0, 0, x.ver, x.es, l, f2⟩, j8.more (fun _ _ => rfl) (by show x.nx + 3 + 8 ≤ x.nx + 3 + 8 + 6 + 7 + 18; omega) (fun j (hj : x.nx + 3 + 8 + 6 + 7 + 18 ≤ j) => j8.new j (by omega)), w8, k3, by show l ≤ x.es.length; omega, by show l ≤ 4294967296; omega, k6⟩, wkI (wk_upd rfl (wk_upd rfl (wk_upd rfl (wk_upd rfl (wk_upd rfl (wk_upd rfl (wk_no _))))))), by show f2 < x.c; omega⟩
    ·have c1 : (decide ((k : Int) < (ord2.length : Int))) = false := decide_eq_false (by omega)
     refine Z1 c1 ?_
     refine ZT 1 ?_
     refine Z0 ?_
     rw [List.drop_eq_nil_of_le (by omega)] at j3
     exact ⟨_, hp5, rfl, ⟨fun _ => .inr rfl⟩, rfl, N5, Option.some.inj j3, j2.more (fun _ _ => rfl) (by show nx5 ≤ nx5 + 1; omega) fun j (hj : nx5 + 1 ≤ j) => j2.new j (by omega)⟩
end Go.Proofs.YtjkdbakgnnhdnaaGreat.Ab
