/-
  All that a relation hangs on is found.
-/
import Derived.Test.YtjkdbakgnnhdnaaGreatSk4
namespace Go.Proofs.YtjkdbakgnnhdnaaGreat.Ab
open Go.RowKit
structure PN where
 k : GRef
 rank : Int
 deps : List GRef
 above : List GRef
 is : Bool
structure Nd extends PN where
 id : Nat
 rid : Nat
 ver : Nat
def pN : Option Nat → AV
 | none => .v (.pointer none)
 | some id => .pt id 0
def ixN (N : List Nd) : List (GRef × Option Nat) := N.map fun n => (n.k, some n.id)
def mapN (N : List Nd) : List (Value × AV) := encM kGRef pN (ixN N)
def boxN (n : Nd) : AO := .bx [.v (.int .i64 n.rank), .d (.sl (n.deps.map eGRef)) false, accV n.rid n.ver (n.above.map eGRef), .v (.bool n.is)]
def findN (r : GRef) : List Nd → Option Nd
 | [] => none
 | n :: l => if r == n.k then some n else findN r l
def findP (r : GRef) : List PN → Option PN
 | [] => none
 | n :: l => if r == n.k then some n else findP r l
abbrev pns (N : List Nd) : List PN := N.map Nd.toPN
theorem findP_pns (r : GRef) : ∀ N : List Nd, findP r (pns N) = (findN r N).map Nd.toPN
 | [] => rfl
 | n :: l => by
  have ih := findP_pns r l
  unfold findN
  show (if r == n.k then some n.toPN else findP r (pns l)) = _
  split
  ·rfl
  ·exact ih
theorem findN_mem {r : GRef} : ∀ {N : List Nd} {n : Nd}, findN r N = some n → n ∈ N ∧ n.k = r
 | [], _, h => by cases h
 | x :: l, n, h => by
  unfold findN at h
  split at h
  ·rename_i e
   cases h
   exact ⟨List.mem_cons_self .., (eq_of_beq e).symm⟩
  ·obtain ⟨h1, h2⟩ := findN_mem h
   exact ⟨List.mem_cons_of_mem _ h1, h2⟩
theorem findN_none {r : GRef} : ∀ {N : List Nd}, findN r N = none → ∀ n ∈ N, n.k ≠ r
 | [], _, _, hm => by cases hm
 | x :: l, h, n, hm => by
  unfold findN at h
  split at h
  ·cases h
  ·rename_i e
   rcases List.mem_cons.1 hm with rfl | hm
   ·exact fun e2 => e (by rw [e2]; exact beq_self_eq_true _)
   ·exact findN_none h n hm
theorem mget_ixN (r : GRef) : ∀ N : List Nd, mget r (ixN N) = (findN r N).map fun n => some n.id
 | [] => rfl
 | n :: l => by
  have ih := mget_ixN r l
  unfold findN
  by_cases e : (r == n.k) = true
  ·simp [ixN, mget, e]
  ·simp only [ixN, List.map_cons, mget, e]
   simpa [ixN] using ih
theorem look_has {r : GRef} {N : List Nd} {n : Nd} (h : findN r N = some n) : NodeAt (mapN N) r n.id := by
 have := lookA_map (ev := pN) key_GRef r none false (ixN N)
 simp only [mgetD, mget_ixN, h] at this
 exact this
theorem look_not {r : GRef} {N : List Nd} (h : findN r N = none) : lookA (true, [.string, .string, .string]) (.agg #[.string r.obj.type_, .string r.obj.id_, .string r.rel]) (.v (.pointer none)) false (mapN N) = some (.v (.pointer none), []) := by
 have := lookA_map (ev := pN) key_GRef r none false (ixN N)
 simp only [mgetD, mget_ixN, h] at this
 exact this
theorem put_new {r : GRef} {N : List Nd} (h : findN r N = none) (n : Nd) (hk : n.k = r) : mput (true, [.string, .string, .string]) (.agg #[.string r.obj.type_, .string r.obj.id_, .string r.rel]) (.pt n.id 0) (mapN N) = some (mapN (N ++ [n])) := by
 have h1 := mput_map (ev := pN) key_GRef r (some n.id) (ixN N)
 obtain ⟨o, _, _, h3⟩ := mfind_map (ev := pN) key_GRef r (ixN N)
 have h4 := (h3 (by rw [mget_ixN, h]; rfl)).2 (some n.id)
 rw [h4] at h1
 subst hk
 have e : ixN N ++ [(n.k, some n.id)] = ixN (N ++ [n]) := by simp [ixN]
 rw [e] at h1
 exact h1
structure InvN (hp : Hp) (m : Nat) (N : List Nd) : Prop where
 map : hp m = some (.mo (mapN N) false)
 box : ∀ n ∈ N, hp n.id = some (boxN n)
 row : ∀ n ∈ N, n.above ≠ [] → hp n.rid = accO 3 n.ver false (n.above.map eGRef)
 keys : (N.map (·.k)).Nodup
 ids : (N.map (·.id)).Nodup
 rids : ∀ a ∈ N, ∀ b ∈ N, a.above ≠ [] → b.above ≠ [] → a.rid = b.rid → a.k = b.k
theorem InvN.at_ {hp : Hp} {m : Nat} {N : List Nd} (h : InvN hp m N) {l : List GRef} (hl : ∀ r ∈ l, (findN r N).isSome = true) : NodesAt hp (mapN N) (fun r => ((findP r (pns N)).map (·.is)).getD false) l := fun r hr => by
 obtain ⟨n, hn⟩ := Option.isSome_iff_exists.1 (hl r hr)
 refine ⟨n.id, .v (.int .i64 n.rank), .d (.sl (n.deps.map eGRef)) false, accV n.rid n.ver (n.above.map eGRef), look_has hn, ?_⟩
 rw [h.box n (findN_mem hn).1]
 simp only [findP_pns, hn, Option.map_some, Option.getD_some]
 rfl
theorem accO_some {sz ver : Nat} {br : Bool} {l : List GRef} (h : l ≠ []) : accO sz ver br (l.map eGRef) = some (.rw (l.map eGRef) sz ver br false) := by
 cases l with
 | nil => exact absurd rfl h
 | cons x r => simp [accO]
def ridsN (N : List Nd) : List Nat := (N.filter fun n => !n.above.isEmpty).map (·.rid)
theorem mem_ridsN {N : List Nd} {n : Nd} (hn : n ∈ N) (ha : n.above ≠ []) : n.rid ∈ ridsN N := List.mem_map_of_mem (List.mem_filter.2 ⟨hn, by cases h : n.above with | nil => exact absurd h ha | cons _ _ => rfl⟩)
theorem ridsN_mem {N : List Nd} {i : Nat} (h : i ∈ ridsN N) : ∃ n ∈ N, n.above ≠ [] ∧ n.rid = i := by
 obtain ⟨n, h1, rfl⟩ := List.mem_map.1 h
 obtain ⟨h2, h3⟩ := List.mem_filter.1 h1
 exact ⟨n, h2, fun e => by rw [e] at h3; simp at h3, rfl⟩
theorem InvN.more {hp hp' : Hp} {m : Nat} {N : List Nd} (h : InvN hp m N) (em : hp' m = hp m) (eb : ∀ n ∈ N, hp' n.id = hp n.id) (er : ∀ n ∈ N, n.above ≠ [] → hp' n.rid = hp n.rid) : InvN hp' m N where
 map := em ▸ h.map
 box := fun n hn => (eb n hn).trans (h.box n hn)
 row := fun n hn ha => (er n hn ha).trans (h.row n hn ha)
 keys := h.keys
 ids := h.ids
 rids := h.rids
theorem InvN.upd_row {hp : Hp} {m i : Nat} {o : Option AO} {N : List Nd} (h : InvN hp m N) (hi : hp i = none ∨ ∃ es sz v b f, hp i = some (.rw es sz v b f)) (hr : i ∉ ridsN N) : InvN (upd i o hp) m N := by
 have ne : ∀ {j : Nat} {x : AO}, hp j = some x → (∀ es sz v b f, x ≠ .rw es sz v b f) → j ≠ i := fun hj hx e => by
  subst e
  rcases hi with hi | ⟨es, sz, v, b, f, hi⟩
  ·rw [hj] at hi
   cases hi
  ·rw [hj] at hi
   cases hi
   exact hx _ _ _ _ _ rfl
 exact h.more (upd_ne _ _ (ne h.map fun _ _ _ _ _ e => by cases e)) (fun n hn => upd_ne _ _ (ne (h.box n hn) fun _ _ _ _ _ e => by cases e)) fun n hn ha => upd_ne _ _ fun e => hr (e ▸ mem_ridsN hn ha)
theorem InvN.upd_new {hp : Hp} {m i : Nat} {o : Option AO} {N : List Nd} (h : InvN hp m N) (hi : hp i = none) : InvN (upd i o hp) m N := h.upd_row (.inl hi) fun hm => by
 obtain ⟨n, h1, h2, h3⟩ := ridsN_mem hm
 have := h.row n h1 h2
 rw [h3, hi, accO_some h2] at this
 cases this
end Go.Proofs.YtjkdbakgnnhdnaaGreat.Ab
namespace Go.Proofs.YtjkdbakgnnhdnaaGreat.Ab
open Go.RowKit
def nodeM (n : Nat) (G : SeekGraph) (r : GRef) : Option (Int × List GRef) := (well_Schema_Rank n G.schema r.obj.type_ r.rel).bind fun k => (seek_Graph_deps n G r).map fun d => (k, d)
def reachM (nd : GRef → Option (Int × List GRef)) : Nat → List PN → List GRef → Option (List PN)
  | 0, _, _ => none
  | _ + 1, N, [] => some N
  | f + 1, N, r :: w => if (findP r N).isSome then reachM nd f N w else (nd r).bind fun p => if w.length + p.2.length ≤ 4294967296 ∧ N.length < 4294967296 then reachM nd f (N ++ [⟨r, p.1, p.2, [], false⟩]) (p.2.reverse ++ w) else none
structure RS where
  hp : Hp
  nx : Nat
  N : List Nd
  oid : Nat
  over : Nat
  ver : Nat
  es : List GRef
  n : Nat
  c : Nat
abbrev ordN (N : List Nd) : List GRef := N.map (·.k)
abbrev boxQ (G : SeekGraph) (s1 s2 s3 : AV) (m oid over : Nat) (N : List Nd) : AO := .bx [.d (.pt (eSeekGraph G) 0) true, s1, s2, s3, .mo m, accV oid over ((ordN N).map eGRef)]
structure RInv (nd : GRef → Option (Int × List GRef)) (G : SeekGraph) (hp0 : Hp) (nx0 q m wid oid0 : Nat) (N0 : List Nd) (s1 s2 s3 : AV) (R : List PN) (x : RS) : Prop where
  new : ∀ j, x.nx ≤ j → x.hp j = none
  box : x.hp q = some (boxQ G s1 s2 s3 m x.oid x.over x.N)
  row : x.N ≠ [] → x.hp x.oid = accO 3 x.over false ((ordN x.N).map eGRef)
  work : x.hp wid = some (.rw (x.es.map eGRef) 3 x.ver false false)
  len : x.n ≤ x.es.length
  nodes : InvN x.hp m x.N
  abo : ∀ n ∈ x.N, n.above = []
  small : x.n ≤ 4294967296
  sep : x.N ≠ [] → x.oid ≠ wid
  own : x.N ≠ [] → (N0 ≠ [] ∧ x.oid = oid0) ∨ nx0 ≤ x.oid
  keep : ∀ i, hp0 i ≠ none → i ≠ q → i ≠ m → (N0 ≠ [] → i ≠ oid0) → x.hp i = hp0 i
  wnew : nx0 ≤ wid
  nxs : nx0 ≤ x.nx
  mod : reachM nd x.c (pns x.N) (x.es.take x.n).reverse = some R
structure ReachP (G : SeekGraph) (hp0 : Hp) (nx0 q m oid0 : Nat) (N0 : List Nd) (s1 s2 s3 : AV) (R : List PN) (hp : Hp) (nx : Nat) : Prop where
  ex : ∃ N oid over, pns N = R ∧ InvN hp m N ∧ (∀ n ∈ N, n.above = []) ∧ hp q = some (boxQ G s1 s2 s3 m oid over N) ∧ (N ≠ [] → hp oid = accO 3 over false ((ordN N).map eGRef)) ∧ (N ≠ [] → (N0 ≠ [] ∧ oid = oid0) ∨ nx0 ≤ oid)
  keep : ∀ i, hp0 i ≠ none → i ≠ q → i ≠ m → (N0 ≠ [] → i ≠ oid0) → hp i = hp0 i
  new : ∀ j, nx ≤ j → hp j = none
  nxs : nx0 ≤ nx
def nwq (q m nx i : Nat) : Nat := if i = q then 1 else if i = m then 2 else if i < nx then 0 else i + 3 - nx
theorem findN_app {r : GRef} {n : Nd} : ∀ {N : List Nd}, findN r N = none → n.k = r → findN r (N ++ [n]) = some n
  | [], _, h => by
    subst h
    show (if n.k == n.k then some n else none) = some n
    rw [if_pos (beq_self_eq_true _)]
  | x :: l, h, hk => by
    unfold findN at h
    split at h
    · cases h
    · rename_i e
      show (if r == x.k then some x else findN r (l ++ [n])) = some n
      rw [if_neg e]
      exact findN_app h hk
def nw5 (a b c d e i : Nat) : Nat := if i = a then 1 else if i = b then 2 else if i = c then 3 else if i = d then 4 else if i = e then 5 else 0
theorem wkI {n nx : Nat} {fr fr' : Fr} {hp : Hp} (h : ∀ t, fr' t = .un ∨ fr' t = fr t) : WeakR n ⟨fr', hp, nx⟩ ⟨fr, hp, nx⟩ := .weak ⟨h, fun _ => .inr rfl, Nat.le_refl _⟩
def nw4 (a b c d i : Nat) : Nat := if i = a then 1 else if i = b then 2 else if i = c then 3 else if i = d then 4 else 0
set_option maxRecDepth 4000 in
theorem reach_ok {hp : Hp} {nx q m oid over n c : Nat} {vr : AV} {G : SeekGraph} {r0 : GRef} {s1 s2 s3 : AV} {N : List Nd} {R : List PN} (hf : ∀ j, nx ≤ j → hp j = none)
    (hq : hp q = some (boxQ G s1 s2 s3 m oid over N)) (ho : N ≠ [] → hp oid = accO 3 over false ((ordN N).map eGRef)) (hN : InvN hp m N) (ha : ∀ n ∈ N, n.above = []) (hR : reachM (nodeM n G) c (pns N) [r0] = some R) (hv : cellsA vr = some [.v (.string r0.obj.type_), .v (.string r0.obj.id_), .v (.string r0.rel)]) :
    InlOK Tryz.prog 25 [.pt q 0, vr] hp nx fun v hp2 nx2 => v = .tu [] ∧ ReachP G hp nx q m oid N s1 s2 s3 R hp2 nx2 := by
  refine inl_runR tab_ok Tryz.func25 (by rfl) (by kernel_rfl) (by kernel_rfl) (by exact Nat.le_of_ble_eq_true rfl) ?_
  have w := And.intro (ne_new hf hq) (And.intro hv hq)
  refine zsq (ZT 1 ?_)
  refine Z1 w ?_
  refine zsq (ZT 1 ?_)
  refine Z1 w ?_
  refine zbk ?_
  have hoN : N ≠ [] → oid < nx := fun h => lt_new hf ((ho h).trans (accO_some (by simpa using h)))
  refine zlp (α := { x : RS // RInv (nodeM n G) G hp nx q m (nx + 1 + 1) oid N s1 s2 s3 R x }) (fun x => ⟨upd 0 (.pt q 0) (upd 4 (.so (nx + 1 + 1) x.1.ver 0 x.1.n) noFr), x.1.hp, x.1.nx⟩) (fun x => x.1.c) ⟨⟨upd (nx + 1 + 1) (some (.rw [eGRef r0] 3 0 false false)) hp, nx + 1 + 3, N, oid, over, 0, [r0], 1, c⟩, ?_⟩ ?_ ?_
  · have e : ∀ i, i < nx → upd (nx + 1 + 1) (some (AO.rw [eGRef r0] 3 0 false false)) hp i = hp i := fun i hi => upd_ne _ _ (by omega)
    exact {
            new := fun j hj => by
              have hj : nx + 1 + 3 ≤ j := hj
              show upd (nx + 1 + 1) _ hp j = none
              rw [upd_ne _ _ (by omega)]
              exact hf j (by omega)
            box := (e q (lt_new hf hq)).trans hq
            row := fun h => (e oid (hoN h)).trans (ho h)
            work := upd_same ..
            len := Nat.le_refl _
            nodes := hN.upd_new (hf _ (by omega))
            abo := ha
            small := by show 1 ≤ 4294967296; omega
            sep := fun h => by have := hoN h; show oid ≠ nx + 1 + 1; omega
            own := fun h => .inl ⟨h, rfl⟩
            keep := fun i hi _ _ _ => e i (by
              rcases Nat.lt_or_ge i nx with h | h
              · exact h
              · exact absurd (hf i h) hi)
            wnew := by omega
            nxs := by show nx ≤ nx + 1 + 3; omega
            mod := hR }
  · refine .weak ⟨fun t => ?_, fun i => ?_, Nat.le_refl _⟩
    · show upd 0 _ _ t = AV.un ∨ _
      by_cases h0 : t = 0
      · subst h0
        exact .inr rfl
      · by_cases h4 : t = 4
        · subst h4
          exact .inr rfl
        · refine .inl ?_
          rw [upd_ne _ _ h0, upd_ne _ _ h4]
          rfl
    · show upd (nx + 1 + 1) _ hp i = none ∨ upd (nx + 1 + 1) _ hp i = upd (nx + 1 + 1) _ (upd nx _ hp) i
      by_cases h1 : i = nx + 1 + 1
      · subst h1
        exact .inr (by rw [upd_same, upd_same])
      · by_cases h2 : i = nx
        · subst h2
          exact .inl (by rw [upd_ne _ _ h1]; exact hf i (Nat.le_refl _))
        · exact .inr (by rw [upd_ne _ _ h1, upd_ne _ _ h1, upd_ne _ _ h2])
  · rintro ⟨x, h⟩
    have hm := h.mod
    obtain ⟨f, hc⟩ : ∃ f, x.c = f + 1 := by
      cases e : x.c with
      | zero => rw [e] at hm; cases hm
      | succ f => exact ⟨f, rfl⟩
    rw [hc] at hm
    refine zsq (zsq ?_)
    refine ZT 1 ?_
    refine Z0 ?_
    rcases hn : x.n with _ | k
    · have h1 : (decide (((0 : Nat) : Int) > 0)) = false := rfl
      refine ZT 1 ?_
      refine Z1 hn ?_
      refine ⟨_, x.hp, rfl, ⟨fun _ => .inr rfl⟩, rfl, ?_⟩
      rw [hn] at hm
      have hR2 : pns x.N = R := Option.some.inj hm
      exact ⟨⟨x.N, x.oid, x.over, hR2, h.nodes, h.abo, h.box, h.row, h.own⟩, h.keep, fun j hj => h.new j (Nat.le_trans (by show x.nx ≤ x.nx + 3; omega) hj), by have := h.nxs; show nx ≤ x.nx + 3; omega⟩
    · have h1 : (decide (((k + 1 : Nat) : Int) > 0)) = true := decide_eq_true (by omega)
      have h2 : (decide ((0 : Int) < ((k + 1 : Nat) : Int))) = true := decide_eq_true (by omega)
      refine ZT 1 ?_
      refine Z1 (And.intro hn (And.intro h1 h2)) ?_
      refine zbk ?_
      refine zsq ?_
      have hk : k < x.es.length := by have := h.len; omega
      obtain ⟨r, hr⟩ : ∃ r, x.es[k]? = some r := ⟨_, List.getElem?_eq_getElem hk⟩
      have h3 : IntKind.i64.wrap (((k + 1 : Nat) : Int) - 1) = (k : Int) := by
        have := h.small
        rw [show (((k + 1 : Nat) : Int) - 1) = (k : Int) by omega]
        exact IntWalk.i64_in _ (by omega)
      have h4 : (k < k + 1) = True := eq_true (Nat.lt_succ_self k)
      have h5 := map_at eGRef hr
      have h6 := h.work
      have htk : (x.es.take (k + 1)).reverse = r :: (x.es.take k).reverse := by
        rw [List.take_add_one, hr]
        simp
      rw [hn, htk] at hm
      refine ZT 1 ?_
      refine Z1 (And.intro hn (And.intro h3 (And.intro h4 (And.intro h5 h6)))) ?_
      refine zsq (ZT 1 ?_)
      have h7 : (k ≤ k + 1) = True := eq_true (Nat.le_succ k)
      have h8 : (nx + 1 + 1 = x.nx + 3 + 6) = False := eq_false (by have := lt_new h.new h.work; omega)
      refine Z1 (And.intro hn (And.intro h3 (And.intro h4 (And.intro h7 (And.intro h8 h6))))) ?_
      refine zsq (zsq ?_)
      refine ZT 1 ?_
      have h9 : (q = x.nx + 3 + 6) = False := eq_false (by have := lt_new h.new h.box; omega)
      have h10 : (m = x.nx + 3 + 6) = False := eq_false (by have := lt_new h.new h.nodes.map; omega)
      rcases hfd : findN r x.N with _ | n0
      · refine Z1 (And.intro h9 (And.intro h10 (And.intro h.box (And.intro h.nodes.map (look_not hfd))))) ?_
        refine Rd_endF (by rfl) ?_
        refine Z0 ?_
        refine ZT 1 ?_
        refine Z0 ?_
        refine zsq (ZT 1 ?_)
        refine Z1 (And.intro h9 (And.intro h10 (And.intro h.box (And.intro h.nodes.map (look_not hfd))))) ?_
        simp only [reachM, findP_pns, hfd, Option.map_none, Option.isSome_none, Bool.false_eq_true, if_false] at hm
        obtain ⟨⟨rk, dp⟩, hnd, hm⟩ := zbi hm
        obtain ⟨rk', hrk, hnd⟩ := zbi hnd
        obtain ⟨dp', hdp, hnd⟩ := Option.map_eq_some_iff.1 hnd
        cases hnd
        split at hm
        rotate_left
        · cases hm
        rename_i hsm
        refine ZD0 (well_Schema_Rank_ok hrk) ?_
        refine Z1 (And.intro h9 (And.intro h10 (And.intro h.box (And.intro h.nodes.map (look_not hfd))))) ?_
        refine ZD0 (seek_Graph_deps_ok hdp) ?_
        have hput := put_new hfd ⟨⟨r, rk, dp, [], false⟩, x.nx + 3 + 8 + 6 + 7 + 25, 0, 0⟩ rfl
        have h11 : (m = x.nx + 3 + 8 + 6 + 7 + 25) = False := eq_false (by have := lt_new h.new h.nodes.map; omega)
        refine Z1 (And.intro h9 (And.intro h10 (And.intro h11 (And.intro h.box (And.intro h.nodes.map hput))))) ?_
        have hqm : q ≠ m := fun e => by
          have e1 := h.box
          rw [e, h.nodes.map] at e1
          cases e1
        have lq := lt_new h.new h.box
        have lm := lt_new h.new h.nodes.map
        have g1 : nwq q m x.nx q = 1 := by simp [nwq]
        have g2 : nwq q m x.nx m = 2 := by simp [nwq, Ne.symm hqm]
        have g3 : nwq q m x.nx (x.nx + 3 + 6) = 12 := by unfold nwq; rw [if_neg (by omega), if_neg (by omega), if_neg (by omega)]; omega
        have g4 : nwq q m x.nx (x.nx + 3 + 8 + 6 + 7 + 25) = 52 := by unfold nwq; rw [if_neg (by omega), if_neg (by omega), if_neg (by omega)]; omega
        refine Rd_endM (nwq q m x.nx) _ rfl (by simp only [List.reverse_cons, List.reverse_nil, List.nil_append, List.cons_append, List.map_cons, List.map_nil, mpRec, g1, g2, g3, g4]; rfl) (by rfl) ?_
        refine Z0 ?_
        generalize e6 : upd m _ _ = hp6
        have old6 : ∀ i, i < x.nx → i ≠ m → hp6 i = x.hp i := fun i h1 h2 => by rw [← e6, upd_ne _ _ h2, upd_ne _ _ (by omega), upd_ne _ _ (by omega), upd_ne _ _ (by omega)]
        have m6 : hp6 m = some (.mo (mapN (x.N ++ [⟨⟨r, rk, dp, [], false⟩, x.nx + 3 + 8 + 6 + 7 + 25, 0, 0⟩])) false) := by rw [← e6, upd_same]
        have i6 : hp6 (x.nx + 3 + 8 + 6 + 7 + 25) = some (.bx [.v (.int .i64 rk), .d (.sl (dp.map eGRef)) false, .v (.slice none 0 0), .v (.bool false)]) := by rw [← e6, upd_ne _ _ (by omega), upd_same]
        have c6 : hp6 (x.nx + 3 + 6) = some (.bx [.v (.string r.obj.type_), .v (.string r.obj.id_), .v (.string r.rel)]) := by rw [← e6, upd_ne _ _ (by omega), upd_ne _ _ (by omega), upd_same]
        have n6 : ∀ j, x.nx + 3 + 8 + 6 + 7 + 27 ≤ j → hp6 j = none := fun j hj => by rw [← e6, upd_ne _ _ (by omega), upd_ne _ _ (by omega), upd_ne _ _ (by omega), upd_ne _ _ (by omega)]; exact h.new j (by omega)
        have oN : x.N ≠ [] → x.oid < x.nx := fun h0 => lt_new h.new ((h.row h0).trans (accO_some (by simpa using h0)))
        obtain ⟨o', eo, ho', hoB, hoO⟩ : ∃ o', accV x.oid x.over ((ordN x.N).map eGRef) = accV o' x.over ((ordN x.N).map eGRef) ∧ hp6 o' = accO 3 x.over false ((ordN x.N).map eGRef) ∧ (∀ j, j < 100 → o' ≠ x.nx + 3 + 8 + 6 + 7 + 27 + j) ∧ (x.N ≠ [] → o' = x.oid) := by
          rcases hN0 : x.N with _ | ⟨n1, N1⟩
          · exact ⟨x.nx + 3 + 8 + 6 + 7 + 27 + 1000, rfl, n6 _ (by omega), fun j hj => by omega, fun h => absurd rfl h⟩
          · rw [← hN0]
            have h0 : x.N ≠ [] := by rw [hN0]; exact fun h => by cases h
            have := oN h0
            refine ⟨x.oid, rfl, ?_, fun j hj => by omega, fun _ => rfl⟩
            rw [old6 _ this fun e => by
              have e1 := h.row h0
              rw [e, h.nodes.map, accO_some (by simpa using h0)] at e1
              cases e1]
            exact h.row h0
        have q6 : hp6 q = some (.bx [.d (.pt (eSeekGraph G) 0) true, s1, s2, s3, .mo m, accV o' x.over ((ordN x.N).map eGRef)]) := by
          rw [old6 q lq hqm, h.box, boxQ, eo]
        refine zsq (ZT 1 ?_)
        obtain ⟨A, eA⟩ : ∃ A, A = accI (x.nx + 3 + 8 + 6 + 7 + 27 + 7) o' ((ordN x.N).map eGRef) := ⟨_, rfl⟩
        have hA : ∀ (i : Nat) (y : AO), hp6 i = some y → (∀ es sz v b f, y ≠ .rw es sz v b f) → i ≠ A := fun i y hi hy e => by
          rw [e, eA] at hi
          cases hL : (ordN x.N).map eGRef with
          | nil =>
            rw [hL] at hi
            have := n6 (x.nx + 3 + 8 + 6 + 7 + 27 + 7) (by omega)
            rw [show hp6 (x.nx + 3 + 8 + 6 + 7 + 27 + 7) = some y from hi] at this
            cases this
          | cons c0 l0 =>
            rw [hL] at hi ho'
            rw [show hp6 o' = some y from hi] at ho'
            cases ho'
            exact hy _ _ _ _ _ rfl
        have hqA : q ≠ A := hA _ _ q6 fun _ _ _ _ _ e => by cases e
        have hcA : x.nx + 3 + 6 ≠ A := hA _ _ c6 fun _ _ _ _ _ e => by cases e
        have hmo : m ≠ A := hA _ _ m6 fun _ _ _ _ _ e => by cases e
        have hiA : x.nx + 3 + 8 + 6 + 7 + 25 ≠ A := hA _ _ i6 fun _ _ _ _ _ e => by cases e
        have hsA : x.nx + 3 + 8 + 6 + 7 + 27 + 6 ≠ A := by
          rw [eA]
          cases hL : (ordN x.N).map eGRef with
          | nil => show x.nx + 3 + 8 + 6 + 7 + 27 + 6 ≠ x.nx + 3 + 8 + 6 + 7 + 27 + 7; omega
          | cons _ _ => exact (hoB 6 (by omega)).symm
        have w7 := And.intro (show (q = accI (x.nx + 3 + 8 + 6 + 7 + 27 + 7) o' ((ordN x.N).map eGRef)) = False from eq_false (eA ▸ hqA)) (And.intro q6 (And.intro c6 (And.intro ho' (And.intro (show (o' = x.nx + 3 + 8 + 6 + 7 + 27 + 6) = False from eq_false (hoB 6 (by omega))) (And.intro (show (q = x.nx + 3 + 8 + 6 + 7 + 27 + 6) = False from eq_false (by omega)) (And.intro (show (x.nx + 3 + 6 = x.nx + 3 + 8 + 6 + 7 + 27 + 6) = False from eq_false (by omega)) (show (x.N.length + 1 ≤ 4294967296) = True from eq_true (by have := hsm.2; simp only [List.length_map] at this; omega))))))))
        refine Z1 w7 ?_
        rw [← eA]
        have g1 : nw4 q A (x.nx + 3 + 6) (x.nx + 3 + 8 + 6 + 7 + 27 + 6) q = 1 := by simp [nw4]
        have g2 : nw4 q A (x.nx + 3 + 6) (x.nx + 3 + 8 + 6 + 7 + 27 + 6) A = 2 := by simp [nw4, Ne.symm hqA]
        have g3 : nw4 q A (x.nx + 3 + 6) (x.nx + 3 + 8 + 6 + 7 + 27 + 6) (x.nx + 3 + 6) = 3 := by unfold nw4; rw [if_neg (by omega), if_neg hcA, if_pos rfl]
        have g4 : nw4 q A (x.nx + 3 + 6) (x.nx + 3 + 8 + 6 + 7 + 27 + 6) (x.nx + 3 + 8 + 6 + 7 + 27 + 6) = 4 := by unfold nw4; rw [if_neg (by omega), if_neg hsA, if_neg (by omega), if_pos rfl]
        refine Rd_endM (nw4 q A (x.nx + 3 + 6) (x.nx + 3 + 8 + 6 + 7 + 27 + 6)) _ rfl (by simp only [List.reverse_cons, List.reverse_nil, List.nil_append, List.cons_append, List.map_cons, List.map_nil, mpRec, g1, g2, g3, g4]; rfl) (by rfl) ?_
        refine Z0 ?_
        generalize e7 : upd q _ _ = hp7
        have lw := lt_new h.new h.work
        have hwA : nx + 1 + 1 ≠ A := by
          rw [eA]
          rcases hN0 : x.N with _ | ⟨n1, N1⟩
          · show _ ≠ x.nx + 3 + 8 + 6 + 7 + 27 + 7
            omega
          · have h0 : x.N ≠ [] := by rw [hN0]; exact fun h => by cases h
            show nx + 1 + 1 ≠ o'
            rw [hoO h0]
            exact (h.sep h0).symm
        have hwm : nx + 1 + 1 ≠ m := fun e => by
          have e1 := h.work
          rw [e, h.nodes.map] at e1
          cases e1
        have hwq : nx + 1 + 1 ≠ q := fun e => by
          have e1 := h.work
          rw [e, h.box] at e1
          cases e1
        have q7 : hp7 q = some (boxQ G s1 s2 s3 m A (accN x.over ((ordN x.N).map eGRef)) (x.N ++ [⟨⟨r, rk, dp, [], false⟩, x.nx + 3 + 8 + 6 + 7 + 25, 0, 0⟩])) := by
          rw [← e7, upd_same, boxQ, accV_pos (by simp)]
          simp
        have m7 : hp7 m = some (.mo (mapN (x.N ++ [⟨⟨r, rk, dp, [], false⟩, x.nx + 3 + 8 + 6 + 7 + 25, 0, 0⟩])) false) := by rw [← e7, upd_ne _ _ (Ne.symm hqm), upd_ne _ _ hmo, upd_ne _ _ (by omega), m6]
        have i7 : hp7 (x.nx + 3 + 8 + 6 + 7 + 25) = some (.bx [.v (.int .i64 rk), .d (.sl (dp.map eGRef)) false, .v (.slice none 0 0), .v (.bool false)]) := by rw [← e7, upd_ne _ _ (by omega), upd_ne _ _ hiA, upd_ne _ _ (by omega), i6]
        have c7 : hp7 (x.nx + 3 + 6) = some (.bx [.v (.string r.obj.type_), .v (.string r.obj.id_), .v (.string r.rel)]) := by rw [← e7, upd_ne _ _ (by omega), upd_ne _ _ hcA, upd_ne _ _ (by omega), c6]
        have w7 : hp7 (nx + 1 + 1) = some (.rw (x.es.map eGRef) 3 x.ver false false) := by rw [← e7, upd_ne _ _ hwq, upd_ne _ _ hwA, upd_ne _ _ (by omega), old6 _ lw hwm, h6]
        have hfd2 : findN r (x.N ++ [⟨⟨r, rk, dp, [], false⟩, x.nx + 3 + 8 + 6 + 7 + 25, 0, 0⟩]) = some ⟨⟨r, rk, dp, [], false⟩, x.nx + 3 + 8 + 6 + 7 + 25, 0, 0⟩ := findN_app hfd rfl
        refine ZT 1 ?_
        have hck : chk 3 (dp.map eGRef) = true := chk_map (f := eGRef) (fun _ => rfl) _
        refine Z1 (And.intro q7 (And.intro m7 (And.intro i7 (And.intro c7 (And.intro w7 (And.intro (look_has hfd2) (And.intro (show (k ≤ x.es.length) = True from eq_true (by omega)) (And.intro hck (And.intro (Nat.sub_zero k) (show (k + dp.length ≤ 4294967296) = True from eq_true (by have := hsm.1; simp only [List.length_reverse, List.length_take] at this; omega))))))))))) ?_
        have g1 : nw5 (nx + 1 + 1) q m (x.nx + 3 + 6) (x.nx + 3 + 8 + 6 + 7 + 25) (nx + 1 + 1) = 1 := by simp [nw5]
        have g2 : nw5 (nx + 1 + 1) q m (x.nx + 3 + 6) (x.nx + 3 + 8 + 6 + 7 + 25) q = 2 := by simp [nw5, Ne.symm hwq]
        have g3 : nw5 (nx + 1 + 1) q m (x.nx + 3 + 6) (x.nx + 3 + 8 + 6 + 7 + 25) m = 3 := by simp [nw5, Ne.symm hwm, Ne.symm hqm]
        have g4 : nw5 (nx + 1 + 1) q m (x.nx + 3 + 6) (x.nx + 3 + 8 + 6 + 7 + 25) (x.nx + 3 + 6) = 4 := by unfold nw5; rw [if_neg (by omega), if_neg (by omega), if_neg (by omega), if_pos rfl]
        have g5 : nw5 (nx + 1 + 1) q m (x.nx + 3 + 6) (x.nx + 3 + 8 + 6 + 7 + 25) (x.nx + 3 + 8 + 6 + 7 + 25) = 5 := by unfold nw5; rw [if_neg (by omega), if_neg (by omega), if_neg (by omega), if_neg (by omega), if_pos rfl]
        refine Rd_endM (nw5 (nx + 1 + 1) q m (x.nx + 3 + 6) (x.nx + 3 + 8 + 6 + 7 + 25)) _ rfl (by simp only [List.reverse_cons, List.reverse_nil, List.nil_append, List.cons_append, List.map_cons, List.map_nil, mpRec, g1, g2, g3, g4, g5]; rfl) (by rfl) ?_
        refine Z0 ?_
        have hnm : ∀ n ∈ x.N, hp7 n.id = some (boxN n) := fun n hn => by
          have e1 := h.nodes.box n hn
          have l1 := lt_new h.new e1
          have n1 : n.id ≠ m := fun e => by
            rw [e, h.nodes.map] at e1
            cases e1
          have n2 : n.id ≠ q := fun e => by
            rw [e, h.box] at e1
            cases e1
          have n3 := hA n.id _ ((old6 _ l1 n1).trans e1) fun _ _ _ _ _ e => by cases e
          rw [← e7, upd_ne _ _ n2, upd_ne _ _ n3, upd_ne _ _ (by omega), old6 _ l1 n1, e1]
        refine ⟨⟨⟨_, _, x.N ++ [⟨⟨r, rk, dp, [], false⟩, x.nx + 3 + 8 + 6 + 7 + 25, 0, 0⟩], A, accN x.over ((ordN x.N).map eGRef), x.ver + 1, x.es.take k ++ dp, k + dp.length, f⟩, ?_⟩, wkI (wk_upd rfl (wk_upd rfl (wk_no _))), by show f < x.c; omega⟩
        have hAlt : A < x.nx + 3 + 8 + 6 + 7 + 27 + 8 ∧ (x.N = [] → x.nx ≤ A) ∧ (x.N ≠ [] → A = x.oid) := by
          rw [eA]
          rcases hN0 : x.N with _ | ⟨n1, N1⟩
          · exact ⟨by show x.nx + 3 + 8 + 6 + 7 + 27 + 7 < _; omega, fun _ => by show _ ≤ x.nx + 3 + 8 + 6 + 7 + 27 + 7; omega, fun h => absurd rfl h⟩
          · have h0 : x.N ≠ [] := by rw [hN0]; exact fun h => by cases h
            have := oN h0
            rw [← hoO h0] at this
            exact ⟨by show o' < _; omega, fun h => (by cases h), fun _ => hoO h0⟩
        have hlen : (x.es.take k).length = k := by rw [List.length_take]; omega
        exact {
                new := fun j hj => by
                  have hj : x.nx + 3 + 8 + 6 + 7 + 27 + 11 + 12 ≤ j := hj
                  have := hAlt.1
                  show upd (nx + 1 + 1) _ hp7 j = none
                  rw [upd_ne _ _ (by omega), ← e7, upd_ne _ _ (by omega), upd_ne _ _ (by omega), upd_ne _ _ (by omega), n6 _ (by omega)]
                box := (upd_ne _ _ (Ne.symm hwq)).trans q7
                row := fun _ => by
                  show upd (nx + 1 + 1) _ hp7 A = _
                  rw [upd_ne _ _ (Ne.symm hwA), ← e7, upd_ne _ _ (Ne.symm hqA), upd_same, accO_pos (by simp)]
                  simp
                work := by
                  show upd (nx + 1 + 1) _ hp7 (nx + 1 + 1) = _
                  rw [upd_same, List.map_append, List.map_take]
                len := by
                  show k + dp.length ≤ (x.es.take k ++ dp).length
                  rw [List.length_append, hlen]
                  exact Nat.le_refl _
                nodes := {
                           map := (upd_ne _ _ (Ne.symm hwm)).trans m7
                           box := fun n hn => by
                             have hw8 : ∀ i (y : AO), hp7 i = some y → (∀ es sz v b f, y ≠ .rw es sz v b f) → upd (nx + 1 + 1) (some (AO.rw (List.take k (List.map eGRef x.es) ++ List.map eGRef dp) 3 (x.ver + 1) false false)) hp7 i = some y := fun i y hi hy => by
                               rw [upd_ne _ _ fun e => by
                                 rw [e, w7] at hi
                                 cases hi
                                 exact hy _ _ _ _ _ rfl]
                               exact hi
                             rcases List.mem_append.1 hn with hn | hn
                             · exact hw8 _ _ (hnm n hn) fun _ _ _ _ _ e => by cases e
                             · rw [List.mem_singleton.1 hn]
                               exact hw8 _ _ i7 fun _ _ _ _ _ e => by cases e
                           row := fun n hn ha => absurd (by
                             rcases List.mem_append.1 hn with hn | hn
                             · exact h.abo n hn
                             · rw [List.mem_singleton.1 hn]) ha
                           keys := by
                             rw [List.map_append]
                             refine List.nodup_append.2 ⟨h.nodes.keys, List.nodup_cons.2 ⟨List.not_mem_nil, List.nodup_nil⟩, fun a ha b hb => ?_⟩
                             obtain ⟨n1, h1, rfl⟩ := List.mem_map.1 ha
                             rw [List.mem_singleton.1 hb]
                             exact findN_none hfd n1 h1
                           ids := by
                             rw [List.map_append]
                             refine List.nodup_append.2 ⟨h.nodes.ids, List.nodup_cons.2 ⟨List.not_mem_nil, List.nodup_nil⟩, fun a ha b hb => ?_⟩
                             obtain ⟨n1, h1, rfl⟩ := List.mem_map.1 ha
                             rw [List.mem_singleton.1 hb]
                             have := lt_new h.new (h.nodes.box n1 h1)
                             show n1.id ≠ x.nx + 3 + 8 + 6 + 7 + 25
                             omega
                           rids := fun n hn _ _ ha => absurd (by
                             rcases List.mem_append.1 hn with hn | hn
                             · exact h.abo n hn
                             · rw [List.mem_singleton.1 hn]) ha }
                abo := fun n hn => by
                  rcases List.mem_append.1 hn with hn | hn
                  · exact h.abo n hn
                  · rw [List.mem_singleton.1 hn]
                small := by
                  show k + dp.length ≤ _
                  have := hsm.1
                  simp only [List.length_reverse, List.length_take] at this
                  omega
                sep := fun _ => Ne.symm hwA
                own := fun _ => by
                  show (N ≠ [] ∧ A = oid) ∨ nx ≤ A
                  rcases hN0 : x.N with _ | ⟨n1, N1⟩
                  · have := hAlt.2.1 hN0
                    have := h.nxs
                    exact .inr (by omega)
                  · have h0 : x.N ≠ [] := by rw [hN0]; exact fun h => by cases h
                    rw [hAlt.2.2 h0]
                    exact h.own h0
                keep := fun i hi hiq him hio => by
                  have hi0 : i < nx := by
                    rcases Nat.lt_or_ge i nx with h | h
                    · exact h
                    · exact absurd (hf i h) hi
                  have hn0 := h.nxs
                  have hiA : i ≠ A := by
                    rcases hN0 : x.N with _ | ⟨n1, N1⟩
                    · have := hAlt.2.1 hN0
                      omega
                    · have h0 : x.N ≠ [] := by rw [hN0]; exact fun h => by cases h
                      rw [hAlt.2.2 h0]
                      rcases h.own h0 with ⟨h1, h2⟩ | h1
                      · rw [h2]
                        exact hio h1
                      · omega
                  show upd (nx + 1 + 1) _ hp7 i = hp i
                  rw [upd_ne _ _ (by omega), ← e7, upd_ne _ _ hiq, upd_ne _ _ hiA, upd_ne _ _ (by omega), old6 i (by omega) him]
                  exact h.keep i hi hiq him hio
                wnew := h.wnew
                nxs := by
                  have := h.nxs
                  show nx ≤ x.nx + 3 + 8 + 6 + 7 + 27 + 11 + 12
                  omega
                mod := by
                  show reachM (nodeM n G) f (pns (x.N ++ _)) (List.take (k + dp.length) (x.es.take k ++ dp)).reverse = some R
                  rw [List.take_of_length_le (by rw [List.length_append, hlen]; exact Nat.le_refl _), List.reverse_append]
                  simpa [pns] using hm }
      · refine Z1 (And.intro h9 (And.intro h10 (And.intro h.box (And.intro h.nodes.map (look_has hfd))))) ?_
        refine Rd_endF (by rfl) ?_
        refine Z0 ?_
        refine ZT 1 ?_
        refine Z0 ?_
        simp only [reachM, findP_pns, hfd, Option.map_some, Option.isSome_some, if_true] at hm
        generalize eh : upd (x.nx + 3 + 6) _ _ = hpf
        have old : ∀ i, i < x.nx → hpf i = x.hp i := fun i hi => by rw [← eh, upd_ne _ _ (by omega), upd_ne _ _ (by omega)]
        refine ⟨⟨⟨_, _, x.N, x.oid, x.over, x.ver, x.es, k, f⟩, ?_⟩, wkI (wk_upd rfl (wk_upd (by show AV.so _ _ 0 (k - 0) = AV.so _ _ 0 k; rw [Nat.sub_zero]) (wk_no _))), by show f < x.c; omega⟩
        have lr : x.N ≠ [] → x.oid < x.nx := fun h0 => lt_new h.new ((h.row h0).trans (accO_some (by simpa using h0)))
        exact {
                new := fun j hj => by
                  have hj : x.nx + 3 + 8 + 6 + 7 ≤ j := hj
                  show hpf j = none
                  rw [← eh, upd_ne _ _ (by omega), upd_ne _ _ (by omega)]
                  exact h.new j (by omega)
                box := (old _ (lt_new h.new h.box)).trans h.box
                row := fun h0 => (old _ (lr h0)).trans (h.row h0)
                work := (old _ (lt_new h.new h.work)).trans h.work
                len := by show k ≤ x.es.length; omega
                nodes := h.nodes.more (old _ (lt_new h.new h.nodes.map)) (fun n hn => old _ (lt_new h.new (h.nodes.box n hn))) fun n hn ha => absurd (h.abo n hn) ha
                abo := h.abo
                small := by have := h.small; show k ≤ _; omega
                sep := h.sep
                own := h.own
                keep := fun i hi h1 h2 h3 => (old _ (by
                  rcases Nat.lt_or_ge i x.nx with h0 | h0
                  · exact h0
                  · have := h.nxs
                    exact absurd (hf i (by omega)) hi)).trans (h.keep i hi h1 h2 h3)
                wnew := h.wnew
                nxs := by have := h.nxs; show nx ≤ x.nx + 3 + 8 + 6 + 7; omega
                mod := hm }
end Go.Proofs.YtjkdbakgnnhdnaaGreat.Ab
