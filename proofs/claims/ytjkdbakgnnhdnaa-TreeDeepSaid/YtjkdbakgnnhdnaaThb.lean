/-
 tree.Has: one of a row of nodes, walked by hand.
-/
import Derived.Test.YtjkdbakgnnhdnaaTha
namespace Go.Proofs.Ytjkdbakgnnhdnaa.Tr
open Go.RowKit
structure N6 where
 kind : Int
 r0 : ByteArray
 r1 : ByteArray
 r2 : ByteArray
 subs : Value
 kids : Value
def N6.v (u : N6) : Value := .agg #[.int .i64 u.kind, .string u.r0, .string u.r1, .string u.r2, u.subs, u.kids]
def isSl (v : Value) : Prop := ∃ A n c, v = .slice A n c
structure RowN (w : World) (b o : Nat) (l : List N6) : Prop where
 lt : b < w.heap.size
 at0 : ∀ k (h : k < l.length), w.cell? ⟨b, o + k * 6, none⟩ = some (.int .i64 l[k].kind)
 at1 : ∀ k (h : k < l.length), w.cell? ⟨b, o + k * 6 + 1, none⟩ = some (.string l[k].r0)
 at2 : ∀ k (h : k < l.length), w.cell? ⟨b, o + k * 6 + 2, none⟩ = some (.string l[k].r1)
 at3 : ∀ k (h : k < l.length), w.cell? ⟨b, o + k * 6 + 3, none⟩ = some (.string l[k].r2)
 at4 : ∀ k (h : k < l.length), w.cell? ⟨b, o + k * 6 + 4, none⟩ = some l[k].subs
 at5 : ∀ k (h : k < l.length), w.cell? ⟨b, o + k * 6 + 5, none⟩ = some l[k].kids
theorem RowN.keep {w w' : World} {b o : Nat} {l : List N6} (h : RowN w b o l) (hb : Below w.heap.size w w') : RowN w' b o l := by
 have g : ∀ i, w'.cell? ⟨b, i, none⟩ = w.cell? ⟨b, i, none⟩ := fun i => hb.cell (p := ⟨b, i, none⟩) h.lt
 exact ⟨Nat.lt_of_lt_of_le h.lt hb.size, fun k hk => (g _).trans (h.at0 k hk), fun k hk => (g _).trans (h.at1 k hk), fun k hk => (g _).trans (h.at2 k hk), fun k hk => (g _).trans (h.at3 k hk), fun k hk => (g _).trans (h.at4 k hk), fun k hk => (g _).trans (h.at5 k hk)⟩
def Asks (w : World) (f : Nat) (p : Value) (u : N6) (q : Bool) : Prop := ∀ w1, Below w.heap.size w w1 → Calls Try.prog f #[u.v, p] w1 fun e w' => e = .returned (.bool q) ∧ Below w1.heap.size w1 w'
theorem Asks.keep {w w' : World} {f : Nat} {p : Value} {u : N6} {q : Bool} (h : Asks w f p u q) (hb : Below w.heap.size w w') : Asks w' f p u q := fun w1 h1 => h w1 (hb.trans (h1.mono hb.size))
def KidsAt (w : World) (v : Value) (l : List N6) : Prop := (l = [] ∧ ∃ a c, v = .slice a 0 c) ∨ ∃ b o c, v = .slice (some ⟨b, o, none⟩) l.length c ∧ RowN w b o l
theorem KidsAt.keep {w w' : World} {v : Value} {l : List N6} (h : KidsAt w v l) (hb : Below w.heap.size w w') : KidsAt w' v l := by
 rcases h with h | ⟨b, o, c, h1, h2⟩
 ·exact .inl h
 ·exact .inr ⟨b, o, c, h1, h2.keep hb⟩
set_option maxRecDepth 100000 in
set_option maxHeartbeats 1000000 in
theorem indexF_row1 (w : World) (b o c : Nat) (p : Value) (l : List N6) (qs : List Bool) (h : RowN w b o l) (hq : qs.length = l.length) (hl : l.length ≤ 9223372036854775807) (hA : ∀ k (hk : k < l.length), Asks w 15 p l[k] (qs[k]'(by omega))) (hs : ∀ k (hk : k < l.length), isSl l[k].subs ∧ isSl l[k].kids) : Calls Try.prog 33 #[.slice (some ⟨b, o, none⟩) l.length c, .func (.func 15) #[] #[p]] w fun e w' => ∃ i : Int, e = .returned (.int .i64 i) ∧ (0 ≤ i ↔ true ∈ qs) ∧ Below w.heap.size w w' := by
 have hr := Lib.hid h
 have hA := Lib.hid hA
 have hs := Lib.hid hs
 have hq := Lib.hid hq
 clear h
 go_enter Try.func33, Try.ntmps33
 go_wp2
 go_loopg [8] l.length (fun gh s8 wr => ∃ k : Nat, k ≤ l.length ∧ l.length - k ≤ gh ∧ s8 = .int .i64 k ∧ RowKit.Hid (Below w.heap.size w wr ∧ ∀ j (hj : j < qs.length), j < k → qs[j] = false))
 case atStart => exact ⟨0, Nat.zero_le _, Nat.le_refl _, rfl, Lib.hid ⟨Below.refl _ w, fun j _ hj => absurd hj (Nat.not_lt_zero _)⟩⟩
 case round =>
  obtain ⟨k, hk, hg, rfl, hT⟩ := hrel
  by_cases hlt : k < l.length
  ·have s7 : (k : Int) < l.length := by omega
   have hk2 := hr.out.keep hT.out.1
   have g0 := hk2.at0 k hlt
   have g1 := hk2.at1 k hlt
   have g2 := hk2.at2 k hlt
   have g3 := hk2.at3 k hlt
   have g4 := hk2.at4 k hlt
   have g5 := hk2.at5 k hlt
   have hcall := hA.out k hlt wr hT.out.1
   obtain ⟨⟨A4, n4, c4, e4⟩, ⟨A5, n5, c5, e5⟩⟩ := hs.out k hlt
   have hkq : k < qs.length := by have := hq.out; omega
   have hqk : RowKit.Hid (∃ z : Bool, qs[k] = z) := Lib.hid ⟨_, rfl⟩
   clear hk2 hqk
   generalize hz : qs[k] = z at hcall
   have hz := Lib.hid hz
   generalize l[k] = y at g0 g1 g2 g3 g4 g5 hcall e4 e5
   obtain ⟨y0, y1, y2, y3, y4, y5⟩ := y
   dsimp only at g0 g1 g2 g3 g4 g5 e4 e5
   subst e4
   subst e5
   have hcall : Calls Try.prog 15 #[.agg #[.int .i64 y0, .string y1, .string y2, .string y3, .slice A4 n4 c4, .slice A5 n5 c5], p] wr fun e w' => e = .returned (.bool z) ∧ Below wr.heap.size wr w' := hcall
   have hcall := Lib.hid hcall
   clear hA hs hr hq
   cases z with
   | true =>
    go_wp2_with (go_at_fn 15)
    refine Calls.mono hcall.out ?_
    rintro e w2 ⟨rfl, hb⟩
    go_wp2
    go_ret
    exact ⟨_, rfl, ⟨fun _ => by rw [← hz.out]; exact List.getElem_mem hkq, fun _ => Int.natCast_nonneg _⟩, hT.out.1.trans (hb.mono hT.out.1.size)⟩
   | false =>
    go_wp2_with (go_at_fn 15)
    refine Calls.mono hcall.out ?_
    rintro e w2 ⟨rfl, hb⟩
    go_wp2
    go_roundg (l.length - (k + 1))
    case measure => omega
    case rel => exact ⟨k + 1, by omega, Nat.le_refl _, by go_num, Lib.hid ⟨hT.out.1.trans (hb.mono hT.out.1.size), fun j hj hjk => by
     rcases Nat.lt_succ_iff_lt_or_eq.1 hjk with h | h
     ·exact hT.out.2 j hj h
     ·subst h
      exact hz.out⟩⟩
  ·have s7 : ¬ (k : Int) < l.length := by omega
   go_wp2
   go_ret
   refine ⟨_, rfl, ⟨fun h => absurd h (by decide), fun hm => ?_⟩, hT.out.1⟩
   clear hA hs hr
   obtain ⟨j, hj, hjx⟩ := List.mem_iff_getElem.1 hm
   have h2 := hT.out.2 j hj (by have := hq.out; omega)
   rw [hjx] at h2
   cases h2
theorem indexF_nil1 (w : World) (a : Option Addr) (c : Nat) (p : Value) : Calls Try.prog 33 #[.slice a 0 c, .func (.func 15) #[] #[p]] w fun e w' => e = .returned (.int .i64 (-1)) ∧ Below w.heap.size w w' := by
 go_enter Try.func33, Try.ntmps33
 go_wp2
 go_loopg [8] 1 (fun gh s8 wr => 1 ≤ gh ∧ s8 = .int .i64 0 ∧ RowKit.Hid (Below w.heap.size w wr))
 case atStart => exact ⟨Nat.le_refl _, rfl, Lib.hid (Below.refl _ w)⟩
 case round =>
  obtain ⟨_, rfl, hT⟩ := hrel
  go_wp2
  go_ret
  exact ⟨rfl, hT.out⟩
theorem containsF_calls1 (w : World) (v : Value) (p : Value) (l : List N6) (qs : List Bool) (h : KidsAt w v l) (hq : qs.length = l.length) (hl : l.length ≤ 9223372036854775807) (hA : ∀ k (hk : k < l.length), Asks w 15 p l[k] (qs[k]'(by omega))) (hs : ∀ k (hk : k < l.length), isSl l[k].subs ∧ isSl l[k].kids) : Calls Try.prog 17 #[v, .func (.func 15) #[] #[p]] w fun e w' => e = .returned (.bool (qs.any id)) ∧ Below w.heap.size w w' := by
 have hL : Calls Try.prog 33 #[v, .func (.func 15) #[] #[p]] w fun e w' => ∃ i : Int, e = .returned (.int .i64 i) ∧ (0 ≤ i ↔ true ∈ qs) ∧ Below w.heap.size w w' := by
  rcases h with ⟨rfl, a, c, rfl⟩ | ⟨b, o, c, rfl, hr⟩
  ·have : qs = [] := List.length_eq_zero_iff.1 hq
   subst this
   exact (indexF_nil1 w a c p).mono fun e w' he => ⟨-1, he.1, by simp, he.2⟩
  ·exact indexF_row1 w b o c p l qs hr hq hl hA hs
 have hv : ∃ A n c, v = .slice A n c := by
  rcases h with ⟨rfl, a, c, rfl⟩ | ⟨b, o, c, rfl, hr⟩
  ·exact ⟨_, _, _, rfl⟩
  ·exact ⟨_, _, _, rfl⟩
 obtain ⟨A, n, c, rfl⟩ := hv
 have hz : (true ∈ qs) ↔ qs.any id = true := by simp
 simp only [hz] at hL
 clear hz
 generalize qs.any id = z at *
 clear h hA hs
 have hL := Lib.hid hL
 go_enter Try.func17, Try.ntmps17
 go_wp2_with (go_at_fn 33)
 refine Calls.mono hL.out ?_
 rintro e w2 ⟨i, rfl, hi, hb⟩
 clear hL
 cases z with
 | true =>
  have s7 : 0 ≤ i := hi.2 rfl
  clear hi
  go_wp2
  go_ret
  exact ⟨rfl, hb⟩
 | false =>
  have s7 : ¬ 0 ≤ i := fun h => by cases hi.1 h
  clear hi
  go_wp2
  go_ret
  exact ⟨by rw [← decide_eq_false (Int.not_le.2 s7)]; rfl, hb⟩
set_option maxRecDepth 100000 in
set_option maxHeartbeats 1000000 in
theorem indexF_row2 (w : World) (b o c : Nat) (p : Value) (l : List N6) (qs : List Bool) (h : RowN w b o l) (hq : qs.length = l.length) (hl : l.length ≤ 9223372036854775807) (hA : ∀ k (hk : k < l.length), Asks w 18 p l[k] (qs[k]'(by omega))) (hs : ∀ k (hk : k < l.length), isSl l[k].subs ∧ isSl l[k].kids) : Calls Try.prog 33 #[.slice (some ⟨b, o, none⟩) l.length c, .func (.func 18) #[] #[p]] w fun e w' => ∃ i : Int, e = .returned (.int .i64 i) ∧ (0 ≤ i ↔ true ∈ qs) ∧ Below w.heap.size w w' := by
 have hr := Lib.hid h
 have hA := Lib.hid hA
 have hs := Lib.hid hs
 have hq := Lib.hid hq
 clear h
 go_enter Try.func33, Try.ntmps33
 go_wp2
 go_loopg [8] l.length (fun gh s8 wr => ∃ k : Nat, k ≤ l.length ∧ l.length - k ≤ gh ∧ s8 = .int .i64 k ∧ RowKit.Hid (Below w.heap.size w wr ∧ ∀ j (hj : j < qs.length), j < k → qs[j] = false))
 case atStart => exact ⟨0, Nat.zero_le _, Nat.le_refl _, rfl, Lib.hid ⟨Below.refl _ w, fun j _ hj => absurd hj (Nat.not_lt_zero _)⟩⟩
 case round =>
  obtain ⟨k, hk, hg, rfl, hT⟩ := hrel
  by_cases hlt : k < l.length
  ·have s7 : (k : Int) < l.length := by omega
   have hk2 := hr.out.keep hT.out.1
   have g0 := hk2.at0 k hlt
   have g1 := hk2.at1 k hlt
   have g2 := hk2.at2 k hlt
   have g3 := hk2.at3 k hlt
   have g4 := hk2.at4 k hlt
   have g5 := hk2.at5 k hlt
   have hcall := hA.out k hlt wr hT.out.1
   obtain ⟨⟨A4, n4, c4, e4⟩, ⟨A5, n5, c5, e5⟩⟩ := hs.out k hlt
   have hkq : k < qs.length := by have := hq.out; omega
   have hqk : RowKit.Hid (∃ z : Bool, qs[k] = z) := Lib.hid ⟨_, rfl⟩
   clear hk2 hqk
   generalize hz : qs[k] = z at hcall
   have hz := Lib.hid hz
   generalize l[k] = y at g0 g1 g2 g3 g4 g5 hcall e4 e5
   obtain ⟨y0, y1, y2, y3, y4, y5⟩ := y
   dsimp only at g0 g1 g2 g3 g4 g5 e4 e5
   subst e4
   subst e5
   have hcall : Calls Try.prog 18 #[.agg #[.int .i64 y0, .string y1, .string y2, .string y3, .slice A4 n4 c4, .slice A5 n5 c5], p] wr fun e w' => e = .returned (.bool z) ∧ Below wr.heap.size wr w' := hcall
   have hcall := Lib.hid hcall
   clear hA hs hr hq
   cases z with
   | true =>
    go_wp2_with (go_at_fn 18)
    refine Calls.mono hcall.out ?_
    rintro e w2 ⟨rfl, hb⟩
    go_wp2
    go_ret
    exact ⟨_, rfl, ⟨fun _ => by rw [← hz.out]; exact List.getElem_mem hkq, fun _ => Int.natCast_nonneg _⟩, hT.out.1.trans (hb.mono hT.out.1.size)⟩
   | false =>
    go_wp2_with (go_at_fn 18)
    refine Calls.mono hcall.out ?_
    rintro e w2 ⟨rfl, hb⟩
    go_wp2
    go_roundg (l.length - (k + 1))
    case measure => omega
    case rel => exact ⟨k + 1, by omega, Nat.le_refl _, by go_num, Lib.hid ⟨hT.out.1.trans (hb.mono hT.out.1.size), fun j hj hjk => by
     rcases Nat.lt_succ_iff_lt_or_eq.1 hjk with h | h
     ·exact hT.out.2 j hj h
     ·subst h
      exact hz.out⟩⟩
  ·have s7 : ¬ (k : Int) < l.length := by omega
   go_wp2
   go_ret
   refine ⟨_, rfl, ⟨fun h => absurd h (by decide), fun hm => ?_⟩, hT.out.1⟩
   clear hA hs hr
   obtain ⟨j, hj, hjx⟩ := List.mem_iff_getElem.1 hm
   have h2 := hT.out.2 j hj (by have := hq.out; omega)
   rw [hjx] at h2
   cases h2
theorem indexF_nil2 (w : World) (a : Option Addr) (c : Nat) (p : Value) : Calls Try.prog 33 #[.slice a 0 c, .func (.func 18) #[] #[p]] w fun e w' => e = .returned (.int .i64 (-1)) ∧ Below w.heap.size w w' := by
 go_enter Try.func33, Try.ntmps33
 go_wp2
 go_loopg [8] 1 (fun gh s8 wr => 1 ≤ gh ∧ s8 = .int .i64 0 ∧ RowKit.Hid (Below w.heap.size w wr))
 case atStart => exact ⟨Nat.le_refl _, rfl, Lib.hid (Below.refl _ w)⟩
 case round =>
  obtain ⟨_, rfl, hT⟩ := hrel
  go_wp2
  go_ret
  exact ⟨rfl, hT.out⟩
theorem containsF_calls2 (w : World) (v : Value) (p : Value) (l : List N6) (qs : List Bool) (h : KidsAt w v l) (hq : qs.length = l.length) (hl : l.length ≤ 9223372036854775807) (hA : ∀ k (hk : k < l.length), Asks w 18 p l[k] (qs[k]'(by omega))) (hs : ∀ k (hk : k < l.length), isSl l[k].subs ∧ isSl l[k].kids) : Calls Try.prog 17 #[v, .func (.func 18) #[] #[p]] w fun e w' => e = .returned (.bool (qs.any id)) ∧ Below w.heap.size w w' := by
 have hL : Calls Try.prog 33 #[v, .func (.func 18) #[] #[p]] w fun e w' => ∃ i : Int, e = .returned (.int .i64 i) ∧ (0 ≤ i ↔ true ∈ qs) ∧ Below w.heap.size w w' := by
  rcases h with ⟨rfl, a, c, rfl⟩ | ⟨b, o, c, rfl, hr⟩
  ·have : qs = [] := List.length_eq_zero_iff.1 hq
   subst this
   exact (indexF_nil2 w a c p).mono fun e w' he => ⟨-1, he.1, by simp, he.2⟩
  ·exact indexF_row2 w b o c p l qs hr hq hl hA hs
 have hv : ∃ A n c, v = .slice A n c := by
  rcases h with ⟨rfl, a, c, rfl⟩ | ⟨b, o, c, rfl, hr⟩
  ·exact ⟨_, _, _, rfl⟩
  ·exact ⟨_, _, _, rfl⟩
 obtain ⟨A, n, c, rfl⟩ := hv
 have hz : (true ∈ qs) ↔ qs.any id = true := by simp
 simp only [hz] at hL
 clear hz
 generalize qs.any id = z at *
 clear h hA hs
 have hL := Lib.hid hL
 go_enter Try.func17, Try.ntmps17
 go_wp2_with (go_at_fn 33)
 refine Calls.mono hL.out ?_
 rintro e w2 ⟨i, rfl, hi, hb⟩
 clear hL
 cases z with
 | true =>
  have s7 : 0 ≤ i := hi.2 rfl
  clear hi
  go_wp2
  go_ret
  exact ⟨rfl, hb⟩
 | false =>
  have s7 : ¬ 0 ≤ i := fun h => by cases hi.1 h
  clear hi
  go_wp2
  go_ret
  exact ⟨by rw [← decide_eq_false (Int.not_le.2 s7)]; rfl, hb⟩
end Go.Proofs.Ytjkdbakgnnhdnaa.Tr
