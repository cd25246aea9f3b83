/-
 Whether a subject is in a relation of an object: what it comes to, for relations without words of their own and few nodes.
-/
import Derived.Test.YtjkdbakgnnhdnaaGreatSkc
namespace Go.Proofs.YtjkdbakgnnhdnaaGreat.Ab
open Go.RowKit
def isP (N : List PN) (r : GRef) : Bool := ((findP r N).map (·.is)).getD false
def rankP (N : List PN) (r : GRef) : Int := ((findP r N).map (·.rank)).getD 0
def nowD (n : Nat) (G : SeekGraph) (s : GSub) (N : List PN) (r : GRef) : Option Bool :=
 (well_Schema_Rel n G.schema r.obj.type_ r.rel).bind fun rel => if rel.1.expr.isEmpty then (look_left_Subs n G.index.left r.obj r.rel).bind fun subs => (slices_Contains_Sub n subs s).bind fun c => (findP r N).bind fun x => if x.deps.all (fun d => (findP d N).isSome) && decide (x.deps.length < 4611686018427387904) then some (c || x.deps.any (isP N)) else none else none
theorem nowD_ok (n : Nat) (G : SeekGraph) (s : GSub) : NowOK G (.v (.string s.type_)) (.v (.string s.id_)) (.v (.string s.rel)) (nowD n G s) := by
 intro hp nx q m o N r b hf hq hN h
 unfold nowD at h
 obtain ⟨rel, h1, h⟩ := zbi h
 split at h
 rotate_left
 ·cases h
 rename_i he
 obtain ⟨subs, h2, h⟩ := zbi h
 obtain ⟨c, h3, h⟩ := zbi h
 obtain ⟨x, h4, h⟩ := zbi h
 split at h
 rotate_left
 ·cases h
 rename_i hd
 rw [Bool.and_eq_true, List.all_eq_true] at hd
 cases h
 rw [findP_pns] at h4
 obtain ⟨nd, e1, rfl⟩ := Option.map_eq_some_iff.1 h4
 obtain ⟨nx', n1, n2⟩ := now_ok hf hq hN.map (look_has e1) (hN.bx e1) h1 (List.isEmpty_iff.1 he) h2 h3 (hN.at_ fun d hd2 => by
  have := hd.1 d hd2
  rw [findP_pns] at this
  simpa using this) (of_decide_eq_true hd.2)
 exact InlOK.mono n2 fun v hp2 nx2 h => ⟨h.1, h.2.1, by rw [h.2.2]; exact n1⟩
theorem addAb_k (d r : GRef) (N : List PN) : (addAb d r N).map (·.k) = N.map (·.k) := by
 unfold addAb
 rw [List.map_map]
 refine List.map_congr_left fun n _ => ?_
 simp only [Function.comp]
 split <;> rfl
theorem addAb_rank (d r : GRef) (N : List PN) : (addAb d r N).map (fun n => (n.k, n.rank, n.deps)) = N.map (fun n => (n.k, n.rank, n.deps)) := by
 unfold addAb
 rw [List.map_map]
 refine List.map_congr_left fun n _ => ?_
 simp only [Function.comp]
 split <;> rfl
theorem aboD_keep {r : GRef} : ∀ {l : List GRef} {N P : List PN}, aboD r l N = some P → P.map (fun n => (n.k, n.rank, n.deps)) = N.map (fun n => (n.k, n.rank, n.deps))
 | [], N, P, h => by cases h; rfl
 | d :: l, N, P, h => by
  unfold aboD at h
  obtain ⟨n, _, h⟩ := zbi h
  split at h
  ·rw [aboD_keep h, addAb_rank]
  ·cases h
theorem aboM_keep : ∀ {l : List GRef} {N P : List PN}, aboM l N = some P → P.map (fun n => (n.k, n.rank, n.deps)) = N.map (fun n => (n.k, n.rank, n.deps))
 | [], N, P, h => by cases h; rfl
 | d :: l, N, P, h => by
  unfold aboM at h
  obtain ⟨n, _, h⟩ := zbi h
  split at h
  ·obtain ⟨M, h1, h⟩ := zbi h
   rw [aboM_keep h, aboD_keep h1]
  ·cases h
theorem findP_mem {r : GRef} : ∀ {N : List PN} {n : PN}, findP r N = some n → n ∈ N ∧ n.k = r
 | [], _, h => by cases h
 | x :: l, n, h => by
  unfold findP at h
  split at h
  ·rename_i e
   cases h
   exact ⟨List.mem_cons_self .., (eq_of_beq e).symm⟩
  ·obtain ⟨h1, h2⟩ := findP_mem h
   exact ⟨List.mem_cons_of_mem _ h1, h2⟩
theorem findP_none {r : GRef} : ∀ {N : List PN}, findP r N = none → ∀ n ∈ N, n.k ≠ r
 | [], _, _, hm => by cases hm
 | x :: l, h, n, hm => by
  unfold findP at h
  split at h
  ·cases h
  ·rename_i e
   rcases List.mem_cons.1 hm with rfl | hm
   ·exact fun e2 => e (by rw [e2]; exact beq_self_eq_true _)
   ·exact findP_none h n hm
theorem findP_some {r : GRef} {N : List PN} (h : r ∈ N.map (·.k)) : ∃ n, findP r N = some n := by
 cases e : findP r N with
 | some n => exact ⟨n, rfl⟩
 | none =>
  obtain ⟨n, h1, h2⟩ := List.mem_map.1 h
  exact absurd h2 (findP_none e n h1)
theorem findP_uniq {N : List PN} (hn : (N.map (·.k)).Nodup) {n : PN} (h : n ∈ N) : findP n.k N = some n := by
 induction N with
 | nil => cases h
 | cons x l ih =>
  rw [List.map_cons, List.nodup_cons] at hn
  show (if n.k == x.k then some x else findP n.k l) = some n
  rcases List.mem_cons.1 h with rfl | h
  ·rw [if_pos (beq_self_eq_true _)]
  ·rw [if_neg fun e => hn.1 (by rw [← eq_of_beq e]; exact List.mem_map_of_mem h)]
   exact ih hn.2 h
theorem reachM_nodup {nd : GRef → Option (Int × List GRef)} : ∀ {f : Nat} {N R : List PN} {w : List GRef}, reachM nd f N w = some R → (N.map (·.k)).Nodup → (R.map (·.k)).Nodup
 | 0, _, _, _, h, _ => by cases h
 | _ + 1, N, R, [], h, hn => by cases h; exact hn
 | f + 1, N, R, r :: w, h, hn => by
  unfold reachM at h
  split at h
  ·exact reachM_nodup h hn
  ·rename_i he
   obtain ⟨p, _, h⟩ := zbi h
   split at h
   ·refine reachM_nodup h ?_
    rw [List.map_append]
    refine List.nodup_append.2 ⟨hn, List.nodup_cons.2 ⟨List.not_mem_nil, List.nodup_nil⟩, fun a ha b hb => ?_⟩
    obtain ⟨n, h1, rfl⟩ := List.mem_map.1 ha
    rw [List.mem_singleton.1 hb]
    exact findP_none (by simpa using he) n h1
   ·cases h
theorem keysOf {N P : List PN} (h : P.map (fun n => (n.k, n.rank, n.deps)) = N.map (fun n => (n.k, n.rank, n.deps))) : P.map (·.k) = N.map (·.k) := by
 have := congrArg (List.map Prod.fst) h
 simpa [Function.comp_def] using this
theorem insOut_len {α : Type} {lt : α → α → Bool} {a b : Nat} : ∀ {f : Nat} {xs ys : List α} {i : Nat}, insOut lt f xs a i b = some ys → ys.length = xs.length
 | 0, _, _, _, h => by cases h
 | f + 1, xs, ys, i, h => by
  unfold insOut at h
  split at h
  ·obtain ⟨zs, h1, h⟩ := zbi h
   rw [insOut_len h, insIn_len h1]
  ·cases h
   rfl
def sortF (f : Nat) (N P : List PN) : Option (List GRef) := if N.length < 20 then insOut (ltC fun a b => cmpI (rankP P a) (rankP P b)) f (N.map (·.k)) 0 1 N.length else none
def seek_Graph_Has (n : Nat) (G : SeekGraph) (o : GObj) (rel : ByteArray) (s : GSub) : Option Bool :=
 (reachM (nodeM n G) n [] [⟨o, rel⟩]).bind fun N => (aboM (N.map (·.k)) N).bind fun P1 => (sortF n N P1).bind fun ord => (rankM (nowD n G s) n ord P1).bind fun P2 => if N.isEmpty then none else (findP ⟨o, rel⟩ P2).map (·.is)
theorem seek_Graph_Has_ok {n : Nat} {G : SeekGraph} {o : GObj} {rel : ByteArray} {s : GSub} {r : Bool} (H : seek_Graph_Has n G o rel s = some r) : PureOK Tryz.prog 12 [D.pt (eSeekGraph G) 0, .ag (eGObj o), .v (.string rel), .ag (eGSub s)] (.v (.bool r)) true := by
 unfold seek_Graph_Has at H
 obtain ⟨N, h1, H⟩ := zbi H
 obtain ⟨P1, h2, H⟩ := zbi H
 obtain ⟨ord, h3, H⟩ := zbi H
 obtain ⟨P2, h4, H⟩ := zbi H
 split at H
 ·cases H
 rename_i hne
 obtain ⟨x, h5, rfl⟩ := Option.map_eq_some_iff.1 H
 have hk := keysOf (aboM_keep h2)
 have hnd := reachM_nodup h1 List.nodup_nil
 unfold sortF at h3
 split at h3
 rotate_left
 ·cases h3
 rename_i hl
 exact has_ok (nowD_ok n G s) h1 h2 (fun e => hne (by rw [e]; rfl)) (by omega) (rk := rankP P1) (fun p hp => by
  unfold rankP
  rw [findP_uniq (hk ▸ hnd) hp]
  rfl) (fun r hr => by
  obtain ⟨p, hp⟩ := findP_some (N := P1) (r := r) (hk ▸ hr)
  rw [hp]
  rfl) (fun g caps S ids hp0 br i ver hc hi hS hp nx hh hx => sst_few hc hi hh hx hS rfl (by simpa using hl) (by simpa using h3)) (by rw [insOut_len h3, List.length_map]) h4 h5
end Go.Proofs.YtjkdbakgnnhdnaaGreat.Ab
