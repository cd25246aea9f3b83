/-
 Comparisons, one behind the other; what is sorted by one. No program in sight.
-/
import Derived.Test.YtkkhgdmmbhpckaaGreatKs
import Derived.Test.YtkkhgdmmbhpckaaGreatAbS
namespace Go.Proofs.YtkkhgdmmbhpckaaGreat.Ab
open Go.Shelf Go.RowKit Go.Sort
structure Pre {α : Type} (c : α → α → Int) : Prop where
 neg : ∀ x y, c x y = - c y x
 trans : ∀ x y z, c x y ≤ 0 → c y z ≤ 0 → c x z ≤ 0
def lex {α : Type} (c d : α → α → Int) (x y : α) : Int := if c x y = 0 then d x y else c x y
theorem Pre.lex {α : Type} {c d : α → α → Int} (hc : Pre c) (hd : Pre d) : Pre (lex c d) where
 neg x y := by
  have h1 := hc.neg x y;have h2 := hd.neg x y;unfold Ab.lex;by_cases h : c x y = 0
  ·rw [if_pos h, if_pos (by omega), h2]
  ·rw [if_neg h, if_neg (by omega), h1]
 trans x y z h1 h2 := by
  have n1 := hc.neg x y;have n2 := hc.neg y z;have n3 := hc.neg x z;unfold Ab.lex at *;have a1 : c x y ≤ 0 := by
   split at h1
   ·omega
   ·exact h1
  have a2 : c y z ≤ 0 := by
   split at h2
   ·omega
   ·exact h2
  have a3 := hc.trans x y z a1 a2;by_cases h : c x z = 0
  ·have b1 := hc.trans z x y (by omega) a1
   have b2 := hc.trans y z x a2 (by omega);have e1 : c x y = 0 := by omega
   have e2 : c y z = 0 := by omega
   rw [if_pos h];rw [if_pos e1] at h1;rw [if_pos e2] at h2;exact hd.trans x y z h1 h2
  ·rw [if_neg h]
   exact a3
theorem Pre.swo {α : Type} {c : α → α → Int} (h : Pre c) : SWO (ltOf c) where
 irrefl x := by
  have := h.neg x x;exact decide_eq_false (by omega)
 trans x y z h1 h2 := by
  have h1 := of_decide_eq_true h1;have h2 := of_decide_eq_true h2;refine decide_eq_true ?_;have a := h.trans x y z (by omega) (by omega);have b := h.neg x z;have d := h.neg x y;have e := h.neg y z;by_cases h0 : c x z = 0
  ·have := h.trans z x y (by omega) (by omega)
   omega
  ·omega
 ntrans x y z h1 h2 := by
  have h1 := of_decide_eq_false h1;have h2 := of_decide_eq_false h2;refine decide_eq_false ?_;have a := h.neg x y;have b := h.neg y z;have d := h.neg x z;have := h.trans z y x (by omega) (by omega);omega
def cmI (a b : Int) : Int := if a < b then -1 else if b < a then 1 else 0
theorem pre_cmI {α : Type} (f : α → Int) : Pre (fun x y => cmI (f x) (f y)) where
 neg x y := by unfold cmI; split <;> split <;> (try split) <;> omega
 trans x y z := by unfold cmI; intro h1 h2; split at h1 <;> split at h2 <;> (try split at h1) <;> (try split at h2) <;> split <;> (try split) <;> omega
theorem pre_cmS {α : Type} (f : α → ByteArray) : Pre (fun x y => cmS (f x) (f y)) where
 neg x y := u5_ _ _
 trans x y z h1 h2 := by
  by_cases e1 : cmS (f x) (f y) = 0
  ·rw [(jz_ _ _).1 e1]
   exact h2
  ·by_cases e2 : cmS (f y) (f z) = 0
   ·rw [← (jz_ _ _).1 e2]
    exact h1
   ·have := gW_ (a := f x) (b := f y) (c := f z) (by omega) (by omega)
    omega
def cmL : List ByteArray → List ByteArray → Int
 | [], [] => 0
 | [], _ :: _ => -1
 | _ :: _, [] => 1
 | a :: x, b :: y => if cmS a b = 0 then cmL x y else cmS a b
theorem ns_ : ∀ x y : List ByteArray, cmL x y = - cmL y x
 | [], [] => rfl
 | [], _ :: _ => rfl
 | _ :: _, [] => rfl
 | a :: x, b :: y => by
  have h := ns_ x y;have k := u5_ a b;unfold cmL;by_cases e : cmS a b = 0
  ·rw [if_pos e, if_pos (by omega), h]
  ·rw [if_neg e, if_neg (by omega), k]
theorem yF_ : ∀ {x y : List ByteArray}, cmL x y = 0 → x = y
 | [], [], _ => rfl
 | [], _ :: _, h => by simp [cmL] at h
 | _ :: _, [], h => by simp [cmL] at h
 | a :: x, b :: y, h => by
  unfold cmL at h;split at h
  ·rename_i e
   rw [(jz_ a b).1 e, yF_ h]
  ·exact absurd h ‹_›
theorem g6_ : ∀ x : List ByteArray, cmL x x = 0
 | [] => rfl
 | a :: x => by
  unfold cmL;rw [if_pos ((jz_ a a).2 rfl)];exact g6_ x
theorem b7_ : ∀ x y z : List ByteArray, cmL x y ≤ 0 → cmL y z ≤ 0 → cmL x z ≤ 0
 | [], _, [], _, _ => by simp [cmL]
 | [], _, _ :: _, _, _ => by simp [cmL]
 | _ :: _, [], _, h, _ => by simp [cmL] at h
 | _ :: _, _ :: _, [], _, h => by simp [cmL] at h
 | a :: x, b :: y, c :: z, h1, h2 => by
  have ih := b7_ x y z;unfold cmL at h1 h2 ⊢;have n1 := u5_ a c;by_cases e1 : cmS a b = 0
  ·have := (jz_ a b).1 e1
   subst this;rw [if_pos e1] at h1;by_cases e2 : cmS a c = 0
   ·rw [if_pos e2] at h2 ⊢
    exact ih h1 h2
   ·rw [if_neg e2] at h2 ⊢
    exact h2
  ·rw [if_neg e1] at h1
   by_cases e2 : cmS b c = 0
   ·have := (jz_ b c).1 e2
    subst this;rw [if_neg e1];exact h1
   ·rw [if_neg e2] at h2
    have := gW_ (a := a) (b := b) (c := c) (by omega) (by omega);rw [if_neg (by omega)];omega
theorem pre_cmL {α : Type} (f : α → List ByteArray) : Pre (fun x y => cmL (f x) (f y)) := ⟨fun _ _ => ns_ _ _, fun _ _ _ => b7_ _ _ _⟩
theorem kv_ {a b : Int} (h : cmI a b = 0) : a = b := by unfold cmI at h; split at h <;> (try split at h) <;> omega
theorem yG_ (a : Int) : cmI a a = 0 := by unfold cmI; rw [if_neg (by omega), if_neg (by omega)]
theorem vR_ {α : Type} {c d : α → α → Int} {x y : α} (h : lex c d x y = 0) : c x y = 0 ∧ d x y = 0 := by
 unfold lex at h;split at h
 ·exact ⟨‹_›, h⟩
 ·exact absurd h ‹_›
def Pre.lin {α : Type} {c : α → α → Int} (h : Pre c) (h0 : ∀ x y, c x y = 0 → x = y) : Lin α where
 lt x y := decide (c x y < 0)
 irrefl x := by
  have := h.neg x x;exact decide_eq_false (by omega)
 trans {x y z} h1 h2 := by
  have := h.swo.trans x y z h1 h2;exact this
 total {x y} h1 h2 := by
  have h1 := of_decide_eq_false h1;have h2 := of_decide_eq_false h2;have := h.neg x y;exact h0 x y (by omega)
def srtC {α : Type} (c : α → α → Int) (xs : List α) : List α := xs.mergeSort fun a b => decide (c a b ≤ 0)
theorem up_ {α : Type} (c : α → α → Int) (xs : List α) : (srtC c xs).Perm xs := List.mergeSort_perm xs _
theorem wP_ {α : Type} {c : α → α → Int} (h : Pre c) (xs : List α) : (srtC c xs).Pairwise fun a b => ltOf c b a = false := by
 have tr : ∀ a b d : α, decide (c a b ≤ 0) = true → decide (c b d ≤ 0) = true → decide (c a d ≤ 0) = true := fun a b d h1 h2 => decide_eq_true (h.trans a b d (of_decide_eq_true h1) (of_decide_eq_true h2));have to : ∀ a b : α, (decide (c a b ≤ 0) || decide (c b a ≤ 0)) = true := fun a b => by
  have := h.neg a b;simp only [Bool.or_eq_true, decide_eq_true_eq];omega
 refine (List.pairwise_mergeSort tr to xs).imp fun {a b} h1 => ?_;have h1 := of_decide_eq_true h1;have n := h.neg a b;exact decide_eq_false (by omega)
theorem fY_ {α : Type} {c : α → α → Int} (h : Pre c) (h0 : ∀ x y, c x y = 0 → x = y) {xs ys : List α} (hp : ys.Perm xs) (hs : ys.Pairwise fun a b => ltOf c b a = false) : ys = srtC c xs := by
 refine List.Perm.eq_of_pairwise (le := fun a b => ltOf c b a = false) (fun a b _ _ h1 h2 => ?_) hs (wP_ h xs) (hp.trans (up_ c xs).symm);have h1 := of_decide_eq_false h1;have h2 := of_decide_eq_false h2;have n := h.neg a b;exact h0 a b (by omega)
open Go.Proofs in
theorem b8_ {P : Program} {ρ : Go.Shelf.Ren} (L : Go.Proofs.SlLaysF0.n6 P ρ) {k : Nat} (aE : ∀ w, (isAgg (ρ.t 24)).run P w = .ok true w) (zE : ∀ w, (Go.sizeOf (ρ.t 24)).run P w = .ok k w) {β : Type} (encD : β → List D) (hk : ∀ x, (encD x).length = k) (cf : β → β → Int) (hO : Pre cf) (p : β → Prop)
  {f : FuncId} (hf : ρ.f 6 = f) (hE : zM_ P f) {g : FuncId} {fr : Bool} (eg : ∀ args w, (callFunc g args).run P w = .ok (.enter g args) w) (hc : ∀ x y, p x → p y → PureOK P g [.ag (encD x), .ag (encD y)] (.v (.int .i64 (cf x y))) fr)
  (xs : List β) (hp : ∀ x ∈ xs, p x) (hx : xs ≠ []) (hn : xs.length < 4611686018427387904) {id ver : Nat} {br : Bool} {hp0 : Hp} {nx : Nat} (hi : hp0 id = some (.rw (xs.map encD) k ver br false)) :
  InlOK P f [.so id ver 0 xs.length, .fn g []] hp0 nx fun v hp2 nx2 => v = .tu [] ∧ nx2 = nx ∧ ∃ ys : List β, ys.Perm xs ∧ (ys.Pairwise fun a b => ltOf cf b a = false) ∧ hp2 = upd id (some (.rw (ys.map encD) k ver br false)) hp0 := by
 have e1 : (xs.attachWith p hp).map Subtype.val = xs := by simp
 have e2 : (xs.attachWith p hp).map (fun x => encD x.1) = xs.map encD := by
  conv => rhs; rw [← e1]
  rw [List.map_map];rfl
 have e3 : (xs.attachWith p hp).length = xs.length := by simp
 have hO2 : Pre (fun x y : { x // p x } => cf x.1 y.1) := ⟨fun x y => hO.neg x.1 y.1, fun x y z => hO.trans x.1 y.1 z.1⟩
 have h := gF_ L aE zE (β := { x // p x }) (fun x => encD x.1) (fun x => hk x.1) (fun x y => cf x.1 y.1) hO2.swo hf hE eg (fun x y => hc x.1 y.1 x.2 y.2) (xs.attachWith p hp) (fun e => hx (by rw [← e1, e]; rfl)) (by rw [e3]; exact hn) (hp := hp0) (nx := nx) (id := id) (ver := ver) (br := br) (by rw [e2]; exact hi);rw [e3] at h;refine h.mono ?_;rintro v hp2 nx2 ⟨h1, h2, ys, h3, h4, h5⟩
 refine ⟨h1, h2, ys.map Subtype.val, ?_, ?_, ?_⟩
 ·have := h3.map Subtype.val
  rwa [e1] at this
 ·rw [List.pairwise_map]
  exact h4
 ·rw [h5, List.map_map]
  rfl
end Go.Proofs.YtkkhgdmmbhpckaaGreat.Ab
