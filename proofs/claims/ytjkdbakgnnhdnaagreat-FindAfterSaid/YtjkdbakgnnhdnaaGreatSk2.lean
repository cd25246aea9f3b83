/-
 Whether one of some relations is known to be so.
-/
import Derived.Test.YtjkdbakgnnhdnaaGreatSgs
import Derived.Test.YtjkdbakgnnhdnaaGreatAbL
namespace Go.Proofs.YtjkdbakgnnhdnaaGreat.Ab
open Go.RowKit
abbrev NodeAt (es : List (Value × AV)) (r : GRef) (id : Nat) : Prop := lookA (true, [.string, .string, .string]) (.agg #[.string r.obj.type_, .string r.obj.id_, .string r.rel]) (.v (.pointer none)) false es = some (.pt id 0, [])
theorem ne_new {hp : Hp} {nx i : Nat} {o : AO} (hf : ∀ j, nx ≤ j → hp j = none) (h : hp i = some o) : (i = nx) = False := eq_false fun e => by
 have := hf i (by omega)
 rw [h] at this
 cases this
theorem less_one {hp : Hp} {nx : Nat} {x : Option AO} (hf : ∀ j, nx ≤ j → hp j = none) : Less hp (upd nx x hp) := ⟨fun i => by
 by_cases h : i = nx
 ·subst h
  exact .inl (hf i (Nat.le_refl _))
 ·exact .inr (by simp [upd, h])⟩
theorem any1 {hp : Hp} {nx q c m id : Nat} {r : GRef} {b : Bool} {g o rk dp ab : AV} {s1 s2 s3 : AV} {es : List (Value × AV)} {dl is : Bool}
  (hc : hp c = some (.bx [.pt q 0])) (hq : hp q = some (.bx [g, s1, s2, s3, .mo m, o])) (hm : hp m = some (.mo es dl)) (hl : NodeAt es r id)
  (hn : hp id = some (.bx [rk, dp, ab, .v (.bool is)])) :
  InlOK Tryz.prog 90 [.d (.ag (eGRef r)) b, .pt c 0] hp nx fun v hp2 nx2 => v = .v (.bool is) ∧ hp2 = hp ∧ nx2 = nx + 12 := by
 refine InlOK.fresh (fun hf => ?_) ⟨Tryz.f90, Tryz.func90, by kernel_rfl, by kernel_rfl⟩
 refine InlOK.up (inl_run tab_ok fol Tryz.func90 (by rfl) (by kernel_rfl) (by kernel_rfl) (by exact Nat.le_of_ble_eq_true rfl) ?_)
 have w := And.intro (ne_new hf hc) (And.intro (ne_new hf hq) (And.intro (ne_new hf hm) (And.intro (ne_new hf hn) (And.intro hc (And.intro hq (And.intro hm (And.intro hl hn)))))))
 refine Z1 w ?_
 refine Rd_endF (by rfl) ?_
 refine Z1 w ?_
 exact ⟨_, hp, rfl, less_one hf, nx + 12, Nat.le_refl _, rfl, rfl, rfl⟩
theorem any1_prd {hp : Hp} {q c m : Nat} {g o : AV} {s1 s2 s3 : AV} {es : List (Value × AV)} {dl b : Bool} {is : GRef → Bool} {ids : List Nat}
  (hc : hp c = some (.bx [.pt q 0])) (hq : hp q = some (.bx [g, s1, s2, s3, .mo m, o])) (hm : hp m = some (.mo es dl)) :
  PrdOK Tryz.prog 90 [.pt c 0] (fun r : GRef => .d (.ag (eGRef r)) b) (fun r => ∃ id rk dp ab, NodeAt es r id ∧ hp id = some (.bx [rk, dp, ab, .v (.bool (is r))]) ∧ id ∈ ids) is (c :: q :: m :: ids) hp := by
 rintro r ⟨id, rk, dp, ab, hl, hn, hi⟩ nx
 refine ⟨nx + 12, by omega, fun hp1 h1 => ?_⟩
 exact any1 (by rw [h1 c (by simp)]; exact hc) (by rw [h1 q (by simp)]; exact hq) (by rw [h1 m (by simp)]; exact hm) hl (by rw [h1 id (by simp [hi])]; exact hn)
theorem el_ref : ElOK tab 92 96 3 := ⟨by simp only [go_sem], by simp only [go_sem], by simp only [go_sem], by simp only [go_sem], .inl (by simp only [go_sem])⟩
theorem ctf_ref {S : GRef → Prop} {pr : GRef → Bool} {g : FuncId} {caps : List AV} {ids : List Nat} {hp0 : Hp} (b : Bool) (hP : PrdOK Tryz.prog g caps (fun x => .d (.ag (eGRef x)) b) S pr ids hp0) (xs : List GRef) (hS : ∀ x ∈ xs, S x) (hx : xs.length < 4611686018427387904) (nx : Nat) :
  ∃ nx', nx ≤ nx' ∧ ∀ hp : Hp, (∀ i ∈ ids, hp i = hp0 i) → InlOK Tryz.prog 89 [.d (.sl (xs.map eGRef)) b, .fn g caps] hp nx fun v hp2 nx2 => v = .v (.bool (xs.any pr)) ∧ hp2 = hp ∧ nx2 = nx' := by
 rw [← idxB_any pr xs 0]
 exact ctf_ok tab_ok fol (T := 92) (E := 96) (I := 3) (B := 0) (F := 116) (V := 4) Tryz.func89 rfl (by kernel_rfl) (by kernel_rfl) (by decide) rfl
  (fun nx => ixf_struct tab_ok fol (T := 92) (E := 96) (I := 3) (B := 0) (F := 116) (V := 4) (n := 3) Tryz.func104 rfl (by kernel_rfl) (by kernel_rfl) (by decide) rfl el_ref (by simp only [go_sem]) eGRef (fun _ => rfl) pr S hP xs hS hx nx) nx
end Go.Proofs.YtjkdbakgnnhdnaaGreat.Ab
namespace Go.Proofs.YtjkdbakgnnhdnaaGreat.Ab
open Go.RowKit
def mpRec (f : Nat → Nat) (a : Rec) : Rec := ⟨a.ids.map f, a.ks.map f, a.g⟩
theorem meet_mp {f : Nat → Nat} {xs ys : List Nat} (h : meet xs ys = true) : meet (xs.map f) (ys.map f) = true := by
 unfold meet at h ⊢
 simp only [List.any_eq_true, List.mem_map, List.contains_iff_mem] at h ⊢
 obtain ⟨i, hi, hk⟩ := h
 exact ⟨_, ⟨i, hi, rfl⟩, ⟨i, hk, rfl⟩⟩
theorem confl_mp {f : Nat → Nat} {a b : Rec} (ha : a.g = false) (hb : b.g = false) (h : confl a b = true) : confl (mpRec f a) (mpRec f b) = true := by
 simp only [confl, confl0, wild, ha, hb, Bool.or_eq_true, Bool.false_and, Bool.false_eq_true, or_false] at h
 apply confl_of0
 simp only [confl0, Bool.or_eq_true]
 rcases h with h | h
 ·have := meet_mp (f := f) h
  rw [List.map_append] at this
  exact .inl (.inl this)
 ·exact .inl (.inr (meet_mp h))
theorem okAll_mp {f : Nat → Nat} {ops : Array Oper} {rs : List Rec} (hg : rs.all (fun a => !a.g) = true) (h : okAll ops (rs.map (mpRec f)) = true) : okAll ops rs = true := by
 have hg : ∀ a ∈ rs, a.g = false := by simpa using hg
 simp only [okAll, okPairs, Bool.and_eq_true, List.all_eq_true] at h ⊢
 refine ⟨h.1, fun j hj i hi => ?_⟩
 have h1 := h.2 j hj i hi
 rw [List.getElem?_map, List.getElem?_map] at h1
 cases hx : rs[i]? with
 | none =>
  rw [hx] at h1
  exact h1
 | some a =>
  cases hy : rs[j]? with
  | none =>
   rw [hx, hy] at h1
   exact h1
  | some b =>
   rw [hx, hy] at h1
   simp only [Option.map_some] at h1 ⊢
   cases hc : confl a b with
   | false =>
    rw [Bool.or_eq_true] at h1 ⊢
    rcases h1 with h1 | h1
    ·exact .inl h1
    ·refine .inr ?_
     rw [Bool.and_eq_true] at h1 ⊢
     exact ⟨h1.1, rfl⟩
   | true =>
    rw [confl_mp (hg a (List.mem_of_getElem? hx)) (hg b (List.mem_of_getElem? hy)) hc] at h1
    simpa using h1
def nw (nx i : Nat) : Nat := i + 1 - nx
theorem nw_old {nx i : Nat} (h : i < nx) : nw nx i = 0 := by
 unfold nw
 omega
theorem nw_self {nx : Nat} : nw nx nx = 1 := by
 unfold nw
 omega
theorem Rd_endM {P : Program} {tab : Nat → TI} {ops : Array Oper} {nx0 nx i : Nat} {k : List It} {Q : Ex → St → Prop} {acc : List Rec} {fr : Fr} {hp : Hp} (f : Nat → Nat) (rs : List Rec) (hr : acc.reverse.map (mpRec f) = rs) (h1 : okFast ops rs = true) (hg : acc.reverse.all (fun a => !a.g) = true) (h2 : run P tab k Q ⟨fr, hp, nx⟩) : Rd P tab ops nx0 nx k Q i [] acc fr hp :=
 ⟨okAll_mp hg (okFast_ok (hr ▸ h1)), h2⟩
end Go.Proofs.YtjkdbakgnnhdnaaGreat.Ab
namespace Go.Proofs.YtjkdbakgnnhdnaaGreat.Ab
open Go.RowKit
theorem lt_new {hp : Hp} {nx i : Nat} {o : AO} (hf : ∀ j, nx ≤ j → hp j = none) (h : hp i = some o) : i < nx := by
 rcases Nat.lt_or_ge i nx with h1 | h1
 ·exact h1
 ·have := hf i h1
  rw [h] at this
  cases this
theorem any_ok {hp : Hp} {nx q m : Nat} {l : List GRef} {b : Bool} {g o : AV} {s1 s2 s3 : AV} {es : List (Value × AV)} {dl : Bool} {is : GRef → Bool} (hf : ∀ j, nx ≤ j → hp j = none)
  (hq : hp q = some (.bx [g, s1, s2, s3, .mo m, o])) (hm : hp m = some (.mo es dl)) (hN : ∀ r ∈ l, ∃ id rk dp ab, NodeAt es r id ∧ hp id = some (.bx [rk, dp, ab, .v (.bool (is r))])) (hx : l.length < 4611686018427387904) :
  ∃ nx', nx ≤ nx' ∧ InlOK Tryz.prog 63 [.pt q 0, .d (.sl (l.map eGRef)) b] hp nx fun v hp2 nx2 => v = .v (.bool (l.any is)) ∧ hp2 = hp ∧ nx2 = nx' := by
 have old : ∀ {i : Nat} {o : AO} (x : Option AO), hp i = some o → upd nx x hp i = some o := fun {i o} x h => by
  rw [upd_ne _ _ (by have := lt_new hf h; omega)]
  exact h
 obtain ⟨nx', h1, h2⟩ := ctf_ref b (any1_prd (hp := upd nx (some (.bx [.pt q 0])) hp) (is := is) (b := b) (ids := List.range nx) (upd_same ..) (old _ hq) (old _ hm)) l (fun r hr => by
  obtain ⟨id, rk, dp, ab, e1, e2⟩ := hN r hr
  exact ⟨id, rk, dp, ab, e1, old _ e2, List.mem_range.2 (lt_new hf e2)⟩) hx (nx + 2 + 4)
 refine ⟨nx', by omega, ?_⟩
 refine inl_run tab_ok fol Tryz.func63 (by rfl) (by kernel_rfl) (by kernel_rfl) (by exact Nat.le_of_ble_eq_true rfl) ?_
 refine Z0 ?_
 refine onCall_inl (InlOK.mono (h2 _ fun _ _ => rfl) fun v hp2 nx2 h => ?_)
 obtain ⟨rfl, rfl, rfl⟩ := h
 refine Z0 ?_
 exact ⟨_, hp, rfl, less_one hf, rfl, rfl, rfl⟩
end Go.Proofs.YtjkdbakgnnhdnaaGreat.Ab
