/-
 Sorts.
-/
import Derived.Shelf.SlSortCmp.NoneTotal
import Derived.Test.YtjkdbakgnnhdnaaAbW
namespace Go.Proofs.Ytjkdbakgnnhdnaa.Ab
open Go.RowKit Go.Sort Go.Proofs
theorem world_grown {w w' : World} (h : Below w.heap.size w w') (hd : w.drawn ≤ w'.drawn) : ∃ q os, w' = grow (w.drewN q) os := by
 refine ⟨w'.drawn - w.drawn, w'.heap.extract w.heap.size w'.heap.size, ?_⟩
 have h1 := h.os; have h2 := h.tape; have h3 := h.output; have h4 := h.size; have h5 := h.block
 obtain ⟨hp, tp, dr, os, out⟩ := w
 obtain ⟨hp', tp', dr', os', out'⟩ := w'
 simp only at h1 h2 h3 h4 h5 hd
 subst h1; subst h2; subst h3
 simp only [grow, World.drewN, World.mk.injEq, true_and, and_true]
 refine ⟨?_, by omega⟩
 apply Array.ext_getElem?
 intro k
 rw [Array.getElem?_append]
 split
 ·rename_i hk
  exact h5 k hk
 ·rename_i hk
  rw [Array.getElem?_extract]
  split
  ·rw [show hp.size + (k - hp.size) = k by omega]
  ·rw [Array.getElem?_eq_none (by omega)]
theorem perm_of_in {α : Type} [Inhabited α] {d d' : Array α} (h : PermIn 0 d.size d d') : d'.toList.Perm d.toList := by
 obtain ⟨h1, _, h2⟩ := h
 have e1 : d'.extract 0 d.size = d' := by rw [← h1]; exact Array.extract_size
 have e2 : d.extract 0 d.size = d := Array.extract_size
 rwa [e1, e2] at h2
theorem sorted_of_in {α : Type} [Inhabited α] {lt : α → α → Bool} {d : Array α} (h : SortedIn lt 0 d.size d) : d.toList.Pairwise fun a b => lt b a = false := by
 rw [List.pairwise_iff_getElem]
 intro i j hi hj hij
 have := h i j (Nat.zero_le _) hij (by simpa using hj)
 simpa [getElem!_pos, show i < d.size by simpa using hi, show j < d.size by simpa using hj] using this
section
variable {P : Program} {ρ : Go.Shelf.Ren}
def El (β : Type) (encD : β → List D) (k : Nat) (w : World) (I : Nat → Prop) : Type :=
 { p : β × List Value // p.2.length = k ∧ ∀ (j : Nat) (d : D), (encD p.1)[j]? = some d → ∃ u, p.2[j]? = some u ∧ RC w I d u }
theorem sort_inl (L : Go.Proofs.SlLaysF0.n6 P ρ) {k : Nat} (aE : ∀ w, (isAgg (ρ.t 24)).run P w = .ok true w) (zE : ∀ w, (Go.sizeOf (ρ.t 24)).run P w = .ok k w) {β : Type} (encD : β → List D) (hk : ∀ x, (encD x).length = k) (cf : β → β → Int) (hO : SWO (ltOf cf))
  {f : FuncId} (hf : ρ.f 6 = f) (hE : Enters P f) {g : FuncId} {fr : Bool} (eg : ∀ args w, (callFunc g args).run P w = .ok (.enter g args) w) (hc : ∀ x y, PureOK P g [.ag (encD x), .ag (encD y)] (.v (.int .i64 (cf x y))) fr)
  (xs : List β) (hx : xs ≠ []) (hn : xs.length < 4611686018427387904) {id ver : Nat} {br : Bool} {hp : Hp} {nx : Nat} (hi : hp id = some (.rw (xs.map encD) k ver br false)) :
  InlOK P f [.so id ver 0 xs.length, .fn g []] hp nx fun v hp2 nx2 => v = .tu [] ∧ nx2 = nx ∧ ∃ ys : List β, ys.Perm xs ∧ (ys.Pairwise fun a b => ltOf cf b a = false) ∧ hp2 = upd id (some (.rw (ys.map encD) k ver br false)) hp := by
 subst hf
 refine ⟨hE, fun gh c args hhp hkn hr hsz hargs => ?_⟩
 rw [← hhp] at hi
 obtain ⟨hk0, hz, T, vs, C, h3, h4, h5, h6, h7⟩ := hr.obj id _ hi
 rw [List.length_map] at h5
 obtain ⟨hkn1, hgb, hgs⟩ := hr.dom id _ hi
 obtain ⟨u0, a0, b0⟩ := hargs 0 _ rfl
 obtain ⟨u1, a1, b1⟩ := hargs 1 _ rfl
 have hblk : ∃ C', u0 = .slice (some ⟨c.φ id, 0, none⟩) xs.length C' := by
  cases (show RA gh c (.so id ver 0 xs.length) u0 from b0) with
  | so _ _ _ _ _ _ _ h =>
   obtain ⟨_, cur, T0, C', _, _, e⟩ := (h _ _ _ _ _ hi).2 rfl
   exact ⟨C', by simpa using e⟩
 obtain ⟨C', rfl⟩ := hblk
 have hu1 : u1 = .func (.func g) #[] #[] := by
  cases (show RA gh c (.fn g []) u1 from b1) with
  | fn _ _ us n hn' _ =>
   simp only [List.length_nil] at hn'
   subst hn'
   rfl
 subst hu1
 have hargs2 : args = #[.slice (some ⟨c.φ id, 0, none⟩) xs.length C', .func (.func g) #[] #[]] := by
  have hsz2 : args.size = 2 := by simpa using hsz
  apply Array.ext
  ·simpa using hsz2
  ·intro j h1 h2
   have hj : j = 0 ∨ j = 1 := by omega
   rcases hj with rfl | rfl
   ·simpa [h1] using a0
   ·simpa [h1] using a1
 subst hargs2
 let I : Nat → Prop := Im gh c br
 have hIb : ∀ b, I b → b ≠ c.φ id ∧ b < c.w.heap.size := fun b hb => ⟨fun e => hb.2.2.1 id _ hi rfl e.symm, hb.1⟩
 let α := El β encD k c.w I
 have hel : ∀ i : Fin xs.length, ∃ x : α, x.1.1 = xs[i] ∧ ∀ j, j < k → vs[i.1 * k + j]? = x.1.2[j]? := by
  intro i
  have hxi : (xs.map encD)[i.1]? = some (encD xs[i]) := by simp
  have hkk := hk xs[i]
  have hget : ∀ j : Fin k, ∃ u, vs[i.1 * k + j.1]? = some u ∧ ∀ d, (encD xs[i])[j.1]? = some d → RC c.w I d u := fun j => by
   obtain ⟨u, e1, e2⟩ := h7 i.1 j.1 _ ((encD xs[i])[j.1]'(by rw [hkk]; exact j.2)) hxi (List.getElem?_eq_getElem _)
   refine ⟨u, e1, fun d hd => ?_⟩
   rw [List.getElem?_eq_getElem (by rw [hkk]; exact j.2)] at hd
   cases hd
   exact e2
  have hch : ∃ us : Fin k → Value, ∀ j : Fin k, vs[i.1 * k + j.1]? = some (us j) ∧ ∀ d, (encD xs[i])[j.1]? = some d → RC c.w I d (us j) := ⟨fun j => (hget j).choose, fun j => (hget j).choose_spec⟩
  obtain ⟨us, hus⟩ := hch
  refine ⟨⟨(xs[i], List.ofFn us), by simp, fun j d hd => ?_⟩, rfl, fun j hj => ?_⟩
  ·have hj : j < k := by have := (List.getElem?_eq_some_iff.1 hd).1; simp only [hkk] at this; exact this
   exact ⟨us ⟨j, hj⟩, by simp [hj], (hus ⟨j, hj⟩).2 d hd⟩
  ·simp [hj, (hus ⟨j, hj⟩).1]
 have hch2 : ∃ es : Fin xs.length → α, ∀ i, (es i).1.1 = xs[i] ∧ ∀ j, j < k → vs[i.1 * k + j]? = (es i).1.2[j]? := ⟨fun i => (hel i).choose, fun i => (hel i).choose_spec⟩
 obtain ⟨es, hes⟩ := hch2
 have hpos : 0 < xs.length := by cases xs with | nil => exact absurd rfl hx | cons _ _ => simp
 haveI : Inhabited α := ⟨es ⟨0, hpos⟩⟩
 let d : Array α := Array.ofFn es
 have hds : d.size = xs.length := by simp [d]
 have hdm : d.toList.map (fun p => p.1.1) = xs := by
  apply List.ext_getElem
  ·simp [hds]
  ·intro i h1 h2
   simp [d, (hes ⟨i, h2⟩).1]
 let enc : α → List Value := fun p => p.1.2
 have henc : ∀ x : α, (enc x).length = k := fun x => x.2.1
 have hone : ∀ x : α, ∀ v ∈ enc x, v.oneCell' = true := fun x v hv => by
  obtain ⟨j, hj, rfl⟩ := List.getElem_of_mem hv
  have hlt : j < (encD x.1.1).length := by rw [hk, ← x.2.1]; exact hj
  obtain ⟨u, e1, e2⟩ := x.2.2 j _ (List.getElem?_eq_getElem hlt)
  rw [List.getElem?_eq_getElem hj] at e1
  cases e1
  exact e2.one
 let cf' : α → α → Int := fun x y => cf x.1.1 y.1.1
 have hO' : SWO (ltOf cf') := ⟨fun x => hO.irrefl x.1.1, fun x y z => hO.trans x.1.1 y.1.1 z.1.1, fun x y z => hO.ntrans x.1.1 y.1.1 z.1.1⟩
 have hH : HoldsK enc k c.w (c.φ id) 0 d := by
  intro t ht
  have ht' : t < d.size * k := by simpa using ht
  have hq : t / k < xs.length := by rw [← hds]; exact Nat.div_lt_of_lt_mul (by rwa [Nat.mul_comm] at ht')
  have hm : t % k < k := Nat.mod_lt _ hk0
  have e0 : t / k * k + t % k = t := Nat.div_add_mod' t k
  have e1 := (hes ⟨t / k, hq⟩).2 (t % k) hm
  simp only [e0] at e1
  have e2 : d[t / k]! = es ⟨t / k, hq⟩ := by simp [d, hq]
  rw [get_flatK enc k d t ht', e2]
  have hl : t % k < (es ⟨t / k, hq⟩).1.2.length := by rw [(es ⟨t / k, hq⟩).2.1]; exact hm
  rw [List.getElem?_eq_getElem hl] at e1
  refine ⟨?_, by simp [World.frozen?, h3]⟩
  rw [Nat.zero_add]
  simp only [World.cell?, h3]
  rw [e1]
  show some _ = some (_root_.id ((es ⟨t / k, hq⟩).1.2[t % k]!))
  rw [getElem!_pos ((es ⟨t / k, hq⟩).1.2) (t % k) hl]
  rfl
 have hblkne : ∀ (m : Nat) (dk : Array α) (os : Array Obj) (b : Nat), I b → (Go.Proofs.sortWorldK enc k c.w (c.φ id) 0 m dk os).heap[b]? = c.w.heap[b]? := fun m dk os b hb => by
  obtain ⟨n1, n2⟩ := hIb b hb
  unfold sortWorldK putRowK
  rw [Sort.heap_grow_old _ _ (by simpa [putRow, mapBlock, Sort.ahead] using n2)]
  simp [putRow, mapBlock, Sort.ahead, Array.getElem?_modify, Ne.symm n1]
 have hsize : ∀ (m : Nat) (dk : Array α) (os : Array Obj), c.w.heap.size ≤ (Go.Proofs.sortWorldK enc k c.w (c.φ id) 0 m dk os).heap.size := fun m dk os => Go.Proofs.size_sortWorldK_c enc k c.w (c.φ id) 0 m dk os
 have hcmp : CmpLays P g #[] enc k cf' (c.φ id) 0 d.size c.w := by
  intro m os dk hdk x y
  have hS := hsize m dk os
  have hB := hblkne m dk os
  generalize sortWorldK enc k c.w (c.φ id) 0 m dk os = W at hS hB
  have harg : ∀ z : α, RV1 W (fun b => b < W.heap.size ∧ ¬ (b = c.φ id)) (.ag (encD z.1.1)) (.agg z.1.2.toArray) := fun z => by
   refine ⟨_, rfl, by simp [z.2.1, hk], fun j dd hd => ?_⟩
   obtain ⟨u, e1, e2⟩ := z.2.2 j dd hd
   exact ⟨u, by simpa using e1, e2.mono hB fun b hb => ⟨Nat.lt_of_lt_of_le (hIb b hb).2 hS, (hIb b hb).1⟩⟩
  have hP : Calls P g (#[.agg (enc x).toArray, .agg (enc y).toArray] ++ #[]) W fun e w' => ∃ u, e = .returned u ∧ (Below W.heap.size W w' ∧ W.drawn ≤ w'.drawn) ∧ RV w' (fun k => k < w'.heap.size ∧ ¬ (k = c.φ id) ∧ (fr = true → W.heap.size ≤ k)) (.v (.int .i64 (cf x.1.1 y.1.1))) u := by
   have hb0 : ∀ k, (fun b => b = c.φ id) k → k < W.heap.size := fun k hk => by
    have : k = c.φ id := hk
    rw [this]
    exact Nat.lt_of_lt_of_le hgs hS
   have hs0 : (#[Value.agg (enc x).toArray, Value.agg (enc y).toArray] ++ #[]).size = [D.ag (encD x.1.1), D.ag (encD y.1.1)].length := by simp
   have ha0 : ∀ (j : Nat) (dd : D), [D.ag (encD x.1.1), D.ag (encD y.1.1)][j]? = some dd → ∃ u, (#[Value.agg (enc x).toArray, Value.agg (enc y).toArray] ++ #[])[j]? = some u ∧ RV1 W (fun k => k < W.heap.size ∧ ¬ (fun b => b = c.φ id) k) dd u := fun j dd hd => by
    match j, hd with
    | 0, hd =>
     have e : dd = .ag (encD x.1.1) := by simpa using hd.symm
     rw [e]
     exact ⟨.agg (enc x).toArray, by simp, harg x⟩
    | 1, hd =>
     have e : dd = .ag (encD y.1.1) := by simpa using hd.symm
     rw [e]
     exact ⟨.agg (enc y).toArray, by simp, harg y⟩
    | j + 2, hd => simp at hd
   exact (hc x.1.1 y.1.1).2 W (fun b => b = c.φ id) _ hb0 hs0 ha0
  refine hP.mono ?_
  rintro e w' ⟨u, he, ⟨hb, hdr⟩, hv⟩
  cases (show RC w' _ (.v (.int .i64 (cf x.1.1 y.1.1))) u from hv)
  exact ⟨he, world_grown hb hdr⟩
 have hcon := AnyQ.slices_SortFunc L k aE zE enc henc hone cf' hO' g #[] (c.φ id) 0 C' d c.w eg hcmp hH hgs (by rw [hds]; exact hn)
 rw [hds] at hcon
 refine hcon.mono ?_
 rintro e w' ⟨he, d', n, os, hperm, hsort, rfl⟩
 rw [← hds] at hperm hsort
 have hds' : d'.size = d.size := hperm.1
 let ys : List β := d'.toList.map fun p => p.1.1
 have hyl : ys.length = xs.length := by simp [ys, hds', hds]
 have hnew : (sortWorldK enc k c.w (c.φ id) 0 n d' os).heap[c.φ id]? = some (.cells (putCells _root_.id 0 (Go.Sort.flatK enc k d') vs) T (0, 0)) := by
  unfold sortWorldK putRowK
  rw [Sort.heap_grow_old _ _ (by simpa [putRow, mapBlock, Sort.ahead] using hgs)]
  simp [putRow, mapBlock, Sort.ahead, Array.getElem?_modify, h3, onCells]
 have hbl : ∀ b, b < c.w.heap.size → b ≠ c.φ id → (sortWorldK enc k c.w (c.φ id) 0 n d' os).heap[b]? = c.w.heap[b]? := fun b hb hne => by
  unfold sortWorldK putRowK
  rw [Sort.heap_grow_old _ _ (by simpa [putRow, mapBlock, Sort.ahead] using hb)]
  simp [putRow, mapBlock, Sort.ahead, Array.getElem?_modify, Ne.symm hne]
 have hcell : ∀ (i j : Nat) (x : α), d'[i]? = some x → j < k → (putCells _root_.id 0 (Go.Sort.flatK enc k d') vs)[i * k + j]? = x.1.2[j]? := by
  intro i j x hx2 hj
  have hi2 : i < d'.size := (Array.getElem?_eq_some_iff.1 hx2).1
  have hlt : i * k + j < d'.size * k := by
   have : (i + 1) * k ≤ d'.size * k := Nat.mul_le_mul_right k hi2
   rw [Nat.add_mul, Nat.one_mul] at this
   omega
  have hlt2 : i * k + j < vs.size := by
   have : d'.size * k ≤ C * k := Nat.mul_le_mul_right k (by omega)
   omega
  simp only [putCells, Array.getElem?_mapIdx, Array.getElem?_eq_getElem hlt2, Option.map_some]
  rw [if_pos (by simp; exact hlt), Nat.sub_zero, get_flatK enc k d' _ hlt]
  have e1 : (i * k + j) / k = i := by rw [Nat.mul_comm, Nat.mul_add_div hk0, Nat.div_eq_of_lt hj, Nat.add_zero]
  have e2 : (i * k + j) % k = j := by rw [Nat.mul_comm, Nat.mul_add_mod, Nat.mod_eq_of_lt hj]
  have e3 : d'[i]! = x := by rw [getElem!_pos d' i hi2]; exact (Array.getElem?_eq_some_iff.1 hx2).2
  rw [e1, e2, e3]
  have hl : j < x.1.2.length := by rw [x.2.1]; exact hj
  show some (_root_.id (x.1.2[j]!)) = _
  rw [getElem!_pos x.1.2 j hl, List.getElem?_eq_getElem hl]
  rfl
 have hext : Ext c ⟨upd id (some (.rw (ys.map encD) k ver br false)) c.hp, upd id (c.φ id) c.φ, sortWorldK enc k c.w (c.φ id) 0 n d' os, c.kn⟩ := by
  refine Ext.chg hr hi rfl rfl rfl rfl (hsize n d' os) hbl (.inl rfl) (fun _ h => h) (fun h => by cases h) (fun es' sz' v' br' fz' e => ?_) (Nat.le_add_right _ _)
  cases e
  refine ⟨_, ver, br, false, rfl, Nat.le_refl _, fun _ => ⟨rfl, by simp [hyl], fun cur T0 e0 => ?_⟩⟩
  rw [h3] at e0
  cases e0
  exact ⟨_, hnew, by simp [putCells]⟩
 refine ⟨.tuple #[], .tu [], ⟨upd id (some (.rw (ys.map encD) k ver br false)) c.hp, upd id (c.φ id) c.φ, sortWorldK enc k c.w (c.φ id) 0 n d' os, c.kn⟩, nx, he, ⟨rfl, rfl, ys, ?_, ?_, by simp only [hhp]⟩, rfl, hext, ?_, ⟨#[], rfl, rfl, fun j x h => by simp at h⟩, Nat.le_refl _, fun i hi => .inl hi⟩
 ·have := (perm_of_in hperm).map (fun p : α => p.1.1)
  rwa [hdm] at this
 ·rw [← hds'] at hsort
  exact List.pairwise_map.2 (sorted_of_in hsort)
 ·refine HR.chg hr hi hext hbl (.inl rfl) (Nat.lt_of_lt_of_le hgs (hsize n d' os)) ⟨hk0, fun i cs hi2 => ?_, T, putCells _root_.id 0 (Go.Sort.flatK enc k d') vs, C, ?_, by simp only [putCells, Array.size_mapIdx]; exact h4, by simp only [List.length_map]; omega, h6, fun i j cs dd hi2 hj => ?_⟩
  ·rw [List.getElem?_map, Option.map_eq_some_iff] at hi2
   obtain ⟨x, _, rfl⟩ := hi2
   exact hk x
  ·simp only [upd_same]
   exact hnew
  ·rw [List.getElem?_map, Option.map_eq_some_iff] at hi2
   obtain ⟨y, e1, rfl⟩ := hi2
   have hj2 : j < k := by have := (List.getElem?_eq_some_iff.1 hj).1; rwa [hk] at this
   simp only [ys, List.getElem?_map, Option.map_eq_some_iff] at e1
   obtain ⟨p, e1, rfl⟩ := e1
   obtain ⟨u, e2, e3⟩ := p.2.2 j dd hj
   refine ⟨u, ?_, e3.ext hext⟩
   rw [hcell i j p (by simpa using e1) hj2]
   exact e2
end
end Go.Proofs.Ytjkdbakgnnhdnaa.Ab
