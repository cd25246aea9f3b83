/-
 What a law is handed, opened: numbers, texts, lists and structs of these, as the machine's data. No program in sight.
-/
import Derived.Test.YtjkdbakgnnhdnaaAbJ
import Derived.Test.YtjkdbakgnnhdnaaCm
namespace Go.Proofs.Ytjkdbakgnnhdnaa.Ab
open Go.ChangeShapes Go.WideShapes Go.ChangeAt Go.RowKit
abbrev All (W : World) : Nat → Prop := fun k => k < W.heap.size ∧ ¬ False
section
variable {H : Type} {enc : TypeId × Value → H} {P : Program} {W : World}
def Opens {H : Type} (enc : TypeId × Value → H) (P : Program) (W : World) (t : TypeId) {α : Type} (e : α → List D) (ok : α → Prop) : Prop :=
 ∀ (fuel : Nat) (cs : List Value) (x : DataW H × List MemPlace), DataW.trod enc P W 0 (fun _ => true) true fuel t cs = some x → ∃ a : α, ok a ∧ cs.length = (e a).length ∧ ∀ (j : Nat) (d : D), (e a)[j]? = some d → ∃ u, cs[j]? = some u ∧ RC W (All W) d u
theorem one_cell {d : D} {u : Value} (h : RC W (All W) d u) : ∀ (j : Nat) (d' : D), [d][j]? = some d' → ∃ u', [u][j]? = some u' ∧ RC W (All W) d' u' := fun j d' hj => by
 cases j with
 | zero => cases hj; exact ⟨u, rfl, h⟩
 | succ j => simp at hj
theorem Opens.int {t : TypeId} {k : IntKind} (ht : P.underlying t = some (.int k)) : Opens enc P W t (fun n : Int => [.v (.int k n)]) fun n => (Lit.int k n).wf = true := fun fuel cs x h => by
 obtain ⟨n, rfl, _, hw⟩ := DataW.trod_int ht h
 exact ⟨n, hw, rfl, one_cell (.v _ rfl)⟩
theorem Opens.bool {t : TypeId} (ht : P.underlying t = some .bool) : Opens enc P W t (fun b : Bool => [.v (.bool b)]) fun _ => True := fun fuel cs x h => by
 obtain ⟨n, rfl, _⟩ := DataW.trod_bool ht h
 exact ⟨n, trivial, rfl, one_cell (.v _ rfl)⟩
theorem cell_at {w : World} {p : Addr} {x : Value} (h : w.cell? p = some x) : p.block < w.heap.size := by
 rcases Nat.lt_or_ge p.block w.heap.size with h1 | h1
 ·exact h1
 ·have : w.heap[p.block]? = none := Array.getElem?_eq_none h1
  simp [World.cell?, this] at h
theorem addr_at {b o i : Nat} : (⟨b, o, none⟩ : Addr).add i = ⟨b, o + i, none⟩ := by
 unfold Addr.add
 split <;> simp_all
theorem Opens.slice {t e : TypeId} {k : Nat} (ht : P.underlying t = some (.slice e)) (hk : P.cellsOf e = k) (h0 : 0 < k) {α : Type} {en : α → List D} {ok : α → Prop} (hl : ∀ a, (en a).length = k) (he : Opens enc P W e en ok) :
  Opens enc P W t (fun l : List α => [.sl (List.map en l)]) fun l => l.length ≤ maxLen ∧ ∀ a ∈ l, ok a := fun fuel cs x h => by
 subst hk
 rcases DataW.trod_slice ht h with ⟨rfl, _⟩ | ⟨a, len, cap, elems, rest, n, _, rfl, _, _, hlc, hm, hel, hat, _, _⟩
 ·exact ⟨[], ⟨Nat.zero_le _, by simp⟩, rfl, one_cell (.nl _ _)⟩
 ·have each : ∀ i : Fin len, ∃ (y : α) (us : List Value), ok y ∧ us.length = P.cellsOf e ∧ (∀ j, j < P.cellsOf e → W.cell? ((a.add (i.1 * P.cellsOf e)).add j) = us[j]?) ∧ ∀ (j : Nat) (d : D), (en y)[j]? = some d → ∃ u, us[j]? = some u ∧ RC W (All W) d u := fun i => by
   have h1 := hat i.1 i.2
   rw [List.getElem?_eq_getElem (by rw [hel]; exact i.2)] at h1
   obtain ⟨us, h2, h3⟩ := Option.bind_eq_some_iff.1 h1
   obtain ⟨_, h5, h6⟩ := World.cells?_some h2
   obtain ⟨y, k1, k2, k3⟩ := he _ _ _ h3
   exact ⟨y, us, k1, h5, h6, k3⟩
  have ch : ∃ (f : Fin len → α) (g : Fin len → List Value), ∀ i, ok (f i) ∧ (g i).length = P.cellsOf e ∧ (∀ j, j < P.cellsOf e → W.cell? ((a.add (i.1 * P.cellsOf e)).add j) = (g i)[j]?) ∧ ∀ (j : Nat) (d : D), (en (f i))[j]? = some d → ∃ u, (g i)[j]? = some u ∧ RC W (All W) d u :=
   ⟨fun i => (each i).choose, fun i => (each i).choose_spec.choose, fun i => (each i).choose_spec.choose_spec⟩
  obtain ⟨f, g, hfg⟩ := ch
  refine ⟨List.ofFn f, ⟨by simp; omega, fun y hy => ?_⟩, rfl, one_cell ?_⟩
  ·obtain ⟨i, rfl⟩ := List.mem_ofFn.1 hy
   exact (hfg i).1
  ·cases len with
   | zero => exact .nl _ _
   | succ m =>
    have hc0 := (hfg ⟨0, by omega⟩).2.2.1 0 h0
    have hl0 : 0 < (g ⟨0, by omega⟩).length := by rw [(hfg ⟨0, by omega⟩).2.1]; exact h0
    rw [List.getElem?_eq_getElem hl0] at hc0
    obtain ⟨b, o, s⟩ := a
    have hspot : s = none := by
     have := World.cell?_spot hc0
     simpa [Addr.add] using this
    subst hspot
    have hlen : (List.map en (List.ofFn f)).length = m + 1 := by simp
    have at' : ∀ (i : Nat) (cs : List D), (List.map en (List.ofFn f))[i]? = some cs → ∃ hi : i < m + 1, cs = en (f ⟨i, hi⟩) := fun i cs hi => by
     have h1 : i < m + 1 := by
      have := (List.getElem?_eq_some_iff.1 hi).1
      rwa [hlen] at this
     refine ⟨h1, ?_⟩
     rw [List.getElem?_map, List.getElem?_eq_getElem (by rw [List.length_ofFn]; exact h1), List.getElem_ofFn] at hi
     exact (Option.some.inj hi).symm
    have key := RC.sl (w := W) (I := All W) (List.map en (List.ofFn f)) b o cap (P.cellsOf e) (fun i j => (W.cell? ⟨b, o + i * P.cellsOf e + j, none⟩).getD (.bool true)) ⟨?_, fun h => h⟩ (by rw [hlen]; exact hlc) ?_ ?_ ?_
    ·rw [hlen] at key
     exact key
    ·have := cell_at hc0
     simpa [Addr.add] using this
    ·intro i cs hi
     obtain ⟨h1, rfl⟩ := at' i cs hi
     exact hl _
    ·intro i j cs d hi hj
     obtain ⟨h1, rfl⟩ := at' i cs hi
     obtain ⟨u, k1, k2⟩ := (hfg ⟨i, h1⟩).2.2.2 j d hj
     have hjk : j < P.cellsOf e := by have := (List.getElem?_eq_some_iff.1 hj).1; rwa [hl] at this
     have k3 := (hfg ⟨i, h1⟩).2.2.1 j hjk
     rw [addr_at, addr_at, k1] at k3
     simp only [k3, Option.getD_some]
    ·intro i j cs d hi hj
     obtain ⟨h1, rfl⟩ := at' i cs hi
     obtain ⟨u, k1, k2⟩ := (hfg ⟨i, h1⟩).2.2.2 j d hj
     have hjk : j < P.cellsOf e := by have := (List.getElem?_eq_some_iff.1 hj).1; rwa [hl] at this
     have k3 := (hfg ⟨i, h1⟩).2.2.1 j hjk
     rw [addr_at, addr_at, k1] at k3
     simp only [k3, Option.getD_some]
     exact k2
def OpensF {H : Type} (enc : TypeId × Value → H) (P : Program) (W : World) (o : Nat) (fs : List Field) {α : Type} (e : α → List D) (ok : α → Prop) : Prop :=
 ∀ (n : Nat) (cs : List Value), (∀ f ∈ fs, ∃ y, DataW.trod enc P W 0 (fun _ => true) true n f.type ((cs.drop f.offset).take (P.cellsOf f.type)) = some y) → ∃ a : α, ok a ∧ ∀ (j : Nat) (d : D), (e a)[j]? = some d → ∃ u, cs[o + j]? = some u ∧ RC W (All W) d u
theorem OpensF.nil {o : Nat} : OpensF enc P W o [] (fun _ : Unit => []) fun _ => True := fun _ _ _ => ⟨(), trivial, fun j d h => by simp at h⟩
theorem OpensF.cons {o k : Nat} {f : Field} {fs : List Field} {α β : Type} {e1 : α → List D} {e2 : β → List D} {ok1 : α → Prop} {ok2 : β → Prop} (ho : f.offset = o) (hl : ∀ a, (e1 a).length = k) (h1 : Opens enc P W f.type e1 ok1) (h2 : OpensF enc P W (o + k) fs e2 ok2) :
  OpensF enc P W o (f :: fs) (fun p : α × β => e1 p.1 ++ e2 p.2) fun p => ok1 p.1 ∧ ok2 p.2 := fun n cs h => by
 obtain ⟨y, hy⟩ := h f (List.mem_cons_self ..)
 obtain ⟨a, k1, k2, k3⟩ := h1 _ _ _ hy
 obtain ⟨b, k4, k5⟩ := h2 n cs fun g hg => h g (List.mem_cons_of_mem _ hg)
 refine ⟨(a, b), ⟨k1, k4⟩, fun j d hj => ?_⟩
 rcases Nat.lt_or_ge j k with hlt | hge
 ·rw [List.getElem?_append_left (by rw [hl]; exact hlt)] at hj
  obtain ⟨u, e3, e4⟩ := k3 j d hj
  refine ⟨u, ?_, e4⟩
  rw [List.getElem?_take] at e3
  split at e3
  ·rwa [List.getElem?_drop, ho] at e3
  ·cases e3
 ·rw [List.getElem?_append_right (by rw [hl]; exact hge), hl] at hj
  obtain ⟨u, e3, e4⟩ := k5 _ d hj
  exact ⟨u, by rw [← e3]; congr 1; omega, e4⟩
theorem Opens.struct {t : TypeId} {fs : Array Field} {α : Type} {e : α → List D} {ok : α → Prop} (ht : P.underlying t = some (.struct fs)) (hl : ∀ a, (e a).length = P.cellsOf t) (h : OpensF enc P W 0 fs.toList e ok) : Opens enc P W t e ok := fun fuel cs x hx => by
 obtain ⟨xs, n, _, _, hc, hxs, hat⟩ := DataW.trod_struct ht hx
 obtain ⟨a, k1, k2⟩ := h n cs fun f hf => by
  obtain ⟨i, hi, rfl⟩ := List.getElem_of_mem hf
  have hi' : i < fs.size := by simpa using hi
  have := hat i fs[i] (by simp [hi'])
  rw [List.getElem?_eq_getElem (by omega)] at this
  exact ⟨_, by simpa using this⟩
 exact ⟨a, k1, by rw [hc, hl], fun j d hj => by have := k2 j d hj; simpa using this⟩
theorem Opens.map {t : TypeId} {α β : Type} {e : α → List D} {ok : α → Prop} (h : Opens enc P W t e ok) (g : α → β) {e' : β → List D} {ok' : β → Prop} (he : ∀ a, e' (g a) = e a) (hok : ∀ a, ok a → ok' (g a)) : Opens enc P W t e' ok' := fun fuel cs x hx => by
 obtain ⟨a, k1, k2, k3⟩ := h fuel cs x hx
 exact ⟨g a, hok a k1, by rw [he]; exact k2, by rw [he]; exact k3⟩
theorem Opens.agg {t : TypeId} {fs : Array Field} {α : Type} {e : α → List D} {ok : α → Prop} (h : Opens enc P W t e ok) (ht : P.underlying t = some (.struct fs)) {W1 : World} {b1 : Nat} {v : Value} {d : DataW H} {p : List MemPlace} (hv : Value.okWide P W1 .any b1 t v) (h0 : DataW.Trod enc P W 0 (fun _ => true) true t v d p) : ∃ a, ok a ∧ RV1 W (All W) (.ag (e a)) v := by
 obtain ⟨cs, rfl, _⟩ := okWide_struct ht hv
 obtain ⟨fuel, hf⟩ := h0
 obtain ⟨a, k1, k2, k3⟩ := h _ _ _ hf
 simp only [Value.cells] at k2 k3
 refine ⟨a, k1, cs, rfl, by simpa using k2, fun j d hj => ?_⟩
 obtain ⟨u, e1, e2⟩ := k3 j d hj
 exact ⟨u, by simpa using e1, e2⟩
theorem Opens.one {t : TypeId} {α : Type} {e : α → D} {ok : α → Prop} (h : Opens enc P W t (fun a => [e a]) ok) {v : Value} (hc : v.cells = #[v]) {d : DataW H} {p : List MemPlace} (h0 : DataW.Trod enc P W 0 (fun _ => true) true t v d p) : ∃ a, ok a ∧ RC W (All W) (e a) v := by
 obtain ⟨fuel, hf⟩ := h0
 obtain ⟨a, k1, _, k3⟩ := h _ _ _ hf
 rw [hc] at k3
 obtain ⟨u, e1, e2⟩ := k3 0 (e a) rfl
 cases e1
 exact ⟨a, k1, e2⟩
end
theorem rows_nil {W : World} : ∀ (j : Nat) (d : D), ([] : List D)[j]? = some d → ∃ u, ([] : List Value)[j]? = some u ∧ RV1 W (All W) d u := fun j d h => by simp at h
theorem rows_cons {W : World} {d : D} {v : Value} {ds : List D} {vs : List Value} (h : RV1 W (All W) d v) (hs : ∀ (j : Nat) (d : D), ds[j]? = some d → ∃ u, vs[j]? = some u ∧ RV1 W (All W) d u) : ∀ (j : Nat) (d' : D), (d :: ds)[j]? = some d' → ∃ u, (v :: vs)[j]? = some u ∧ RV1 W (All W) d' u := fun j d' hj => by
 cases j with
 | zero => cases hj; exact ⟨v, rfl, h⟩
 | succ j => exact hs j d' (by simpa using hj)
theorem law_pure {P : Program} {f : FuncId} {fr : Bool} {ds : List D} (h : PureOK P f ds (.v (.bool true)) fr) (W : World) (vs : List Value) (hl : vs.length = ds.length) (ha : ∀ (j : Nat) (d : D), ds[j]? = some d → ∃ u, vs[j]? = some u ∧ RV1 W (All W) d u) : Calls P f vs.toArray W fun e W' => e = .returned (.bool true) ∧ Below W.heap.size W W' := by
 refine (h.2 W (fun _ => False) vs.toArray (fun _ h => h.elim) (by simpa using hl) fun j x hj => ?_).mono fun e W' ⟨u, he, ⟨hb, _⟩, hv⟩ => ?_
 ·obtain ⟨u, e1, e2⟩ := ha j x hj
  exact ⟨u, by simpa using e1, e2⟩
 ·cases (show RC W' _ (.v (.bool true)) u from hv)
  exact ⟨he, hb⟩
end Go.Proofs.Ytjkdbakgnnhdnaa.Ab
