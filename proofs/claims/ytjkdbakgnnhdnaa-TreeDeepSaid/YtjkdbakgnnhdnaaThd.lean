/-
 tree.Has, walked by hand.
-/
import Derived.Test.YtjkdbakgnnhdnaaThc
import Derived.Deep.RegionHeld3
import Derived.Laws.EntriesVeiled
import Derived.Test.YtjkdbakgnnhdnaaFree
namespace Go.Proofs.Ytjkdbakgnnhdnaa.Tr
open Go.RowKit
def hasaS (B0 b o c5 : Nat) (q1 q2 : Bool) (FV U1 U2 : Value) : List Fr.Sp := [
 ⟨[], [2], fun _ v _ => v = .pointer (some ⟨B0, 5, none⟩)⟩,
 ⟨[0], [], fun _ v _ => v = .slice (some ⟨b, o, none⟩) 2 c5⟩,
 ⟨[1], [], fun _ v _ => v = .int .i64 2⟩,
 ⟨[2], [], fun _ v _ => v = .bool true⟩,
 ⟨[3], [], fun _ v _ => v = .bool true⟩,
 ⟨[4], [5], fun _ v _ => v = FV⟩,
 ⟨[4], [2], fun _ v _ => v = .pointer (some ⟨B0, 5, none⟩)⟩,
 ⟨[6, 4], [], fun _ v _ => v = .slice (some ⟨b, o, none⟩) 2 c5⟩,
 ⟨[7, 4], [], fun _ v _ => v = .pointer (some ⟨b, o, none⟩)⟩,
 ⟨[8, 4], [], fun _ v _ => v = U1⟩,
 ⟨[5, 9, 4], [], fun _ v _ => v = .bool q1⟩,
 ⟨[4, 10], [], fun _ v _ => v = .bool q1⟩,
 ⟨[11], [], fun _ v _ => v = .bool q1⟩,
 ⟨[12], [5], fun _ v _ => q1 = true → v = FV⟩,
 ⟨[12], [2], fun _ v _ => q1 = true → v = .pointer (some ⟨B0, 5, none⟩)⟩,
 ⟨[14, 12], [], fun _ v _ => q1 = true → v = .slice (some ⟨b, o, none⟩) 2 c5⟩,
 ⟨[15, 12], [], fun _ v _ => q1 = true → v = .pointer (some ⟨b, o + 6, none⟩)⟩,
 ⟨[16, 12], [], fun _ v _ => q1 = true → v = U2⟩,
 ⟨[13, 17, 12], [], fun _ v _ => q1 = true → v = .bool q2⟩,
 ⟨[18, 12], [], fun _ v _ => q1 = true → v = .bool (!q2)⟩,
 ⟨[12, 19], [], fun _ v _ => v = .bool (q1 && !q2)⟩,
 ⟨[20], [], fun _ v _ => v = .bool (q1 && !q2)⟩]
def hasaD : List (Option Nat) := [some 43, some 44, some 45, some 46, some 47, some 48, some 49, some 50, some 51, some 52, some 53, some 54, some 55, some 56, some 57, some 58, some 59, some 60, some 61, some 62, some 63, some 4]
theorem hasaSt (B0 b o c5 : Nat) (q1 q2 : Bool) (FV U1 U2 : Value) : Fr.Stables (hasaS B0 b o c5 q1 q2 FV U1 U2) :=
 ⟨fun _ _ _ _ _ h => h, fun _ _ _ _ _ h => h, fun _ _ _ _ _ h => h, fun _ _ _ _ _ h => h, fun _ _ _ _ _ h => h, fun _ _ _ _ _ h => h, fun _ _ _ _ _ h => h, fun _ _ _ _ _ h => h, fun _ _ _ _ _ h => h, fun _ _ _ _ _ h => h, fun _ _ _ _ _ h => h, fun _ _ _ _ _ h => h, fun _ _ _ _ _ h => h, fun _ _ _ _ _ h => h, fun _ _ _ _ _ h => h, fun _ _ _ _ _ h => h, fun _ _ _ _ _ h => h, fun _ _ _ _ _ h => h, fun _ _ _ _ _ h => h, fun _ _ _ _ _ h => h, fun _ _ _ _ _ h => h, fun _ _ _ _ _ h => h, trivial⟩
def hasbS (B0 : Nat) (A5 : Option Addr) (n5 c5 : Nat) : List Fr.Sp := [
 ⟨[], [2], fun _ v _ => v = .pointer (some ⟨B0, 5, none⟩)⟩,
 ⟨[0], [], fun _ v _ => v = .slice A5 n5 c5⟩,
 ⟨[1], [], fun _ v _ => v = .int .i64 n5⟩,
 ⟨[2], [], fun _ v _ => v = .bool false⟩,
 ⟨[3], [], fun _ v _ => v = .bool false⟩,
 ⟨[4], [5], fun _ _ _ => True⟩,
 ⟨[4], [2], fun _ _ _ => True⟩,
 ⟨[6, 4], [], fun _ _ _ => True⟩,
 ⟨[7, 4], [], fun _ _ _ => True⟩,
 ⟨[8, 4], [], fun _ _ _ => True⟩,
 ⟨[5, 9, 4], [], fun _ _ _ => True⟩,
 ⟨[4, 10], [], fun _ v _ => v = .bool false⟩,
 ⟨[11], [], fun _ v _ => v = .bool false⟩,
 ⟨[12], [5], fun _ _ _ => True⟩,
 ⟨[12], [2], fun _ _ _ => True⟩,
 ⟨[14, 12], [], fun _ _ _ => True⟩,
 ⟨[15, 12], [], fun _ _ _ => True⟩,
 ⟨[16, 12], [], fun _ _ _ => True⟩,
 ⟨[13, 17, 12], [], fun _ _ _ => True⟩,
 ⟨[18, 12], [], fun _ _ _ => True⟩,
 ⟨[12, 19], [], fun _ v _ => v = .bool false⟩,
 ⟨[20], [], fun _ v _ => v = .bool false⟩]
def hasbD : List (Option Nat) := [some 43, some 44, some 45, some 46, some 47, some 48, some 49, some 50, some 51, some 52, some 53, some 54, some 55, some 56, some 57, some 58, some 59, some 60, some 61, some 62, some 63, some 4]
theorem hasbSt (B0 : Nat) (A5 : Option Addr) (n5 c5 : Nat) : Fr.Stables (hasbS B0 A5 n5 c5) :=
 ⟨fun _ _ _ _ _ h => h, fun _ _ _ _ _ h => h, fun _ _ _ _ _ h => h, fun _ _ _ _ _ h => h, fun _ _ _ _ _ h => h, fun _ _ _ _ _ h => h, fun _ _ _ _ _ h => h, fun _ _ _ _ _ h => h, fun _ _ _ _ _ h => h, fun _ _ _ _ _ h => h, fun _ _ _ _ _ h => h, fun _ _ _ _ _ h => h, fun _ _ _ _ _ h => h, fun _ _ _ _ _ h => h, fun _ _ _ _ _ h => h, fun _ _ _ _ _ h => h, fun _ _ _ _ _ h => h, fun _ _ _ _ _ h => h, fun _ _ _ _ _ h => h, fun _ _ _ _ _ h => h, fun _ _ _ _ _ h => h, fun _ _ _ _ _ h => h, trivial⟩
set_option maxRecDepth 100000 in
set_option maxHeartbeats 2000000 in
theorem has_calls {w : World} {u : N6} {x : S3} {l : List N6} {qs : List Bool} {subs : List S3} (hs : SubsAt w u.subs subs) (hsl : subs.length ≤ 9223372036854775807) (hk : KidsAt w u.kids l) (hl : l.length ≤ 9223372036854775807) (hq : qs.length = l.length) (hsk : ∀ k (hk : k < l.length), isSl l[k].subs ∧ isSl l[k].kids) (hA : ∀ k (hk : k < l.length), HasAt w x l[k] (qs[k]'(by omega))) : Calls Try.prog 8 #[u.v, x.v] w fun e w' => e = .returned (.bool (hasK u.kind (decide (x ∈ subs)) qs)) ∧ Below w.heap.size w w' := by
 obtain ⟨K, u1, u2, u3, u4, u5⟩ := u
 have hv4 : isSl u4 := by
  rcases hs with ⟨_, a, c, h⟩ | ⟨b, o, c, h, _⟩
  ·exact ⟨_, _, _, h⟩
  ·exact ⟨_, _, _, h⟩
 have hv5 : isSl u5 := by
  rcases hk with ⟨_, a, c, h⟩ | ⟨b, o, c, h, _⟩
  ·exact ⟨_, _, _, h⟩
  ·exact ⟨_, _, _, h⟩
 obtain ⟨A4, n4, c4, rfl⟩ := hv4
 obtain ⟨A5, n5, c5, rfl⟩ := hv5
 obtain ⟨W, hW⟩ : ∃ W : World, W = ((w.alloc (.cells #[.int .i64 K, .string u1, .string u2, .string u3, .slice A4 n4 c4, .slice A5 n5 c5] 38)).alloc (.cells #[.string x.a, .string x.b, .string x.c] 30)).alloc (.cells #[.func (.func 15) #[] #[.pointer (some ⟨w.heap.size + 1, 0, none⟩)]] 44) := ⟨_, rfl⟩
 have hb0 : Below w.heap.size w W := by
  rw [hW]
  exact (((Below.refl _ w).alloc (Nat.le_refl _) _).alloc (by simp) _).alloc (by simp; omega) _
 have e0 : W.heap[w.heap.size]? = some (.cells #[.int .i64 K, .string u1, .string u2, .string u3, .slice A4 n4 c4, .slice A5 n5 c5] 38) := by
  rw [hW, Below.heap_alloc _ _ _ (by simp; omega), Below.heap_alloc _ _ _ (by simp), Go.Deep.blk_alloc_new]
 have e1 : W.heap[w.heap.size + 1]? = some (.cells #[.string x.a, .string x.b, .string x.c] 30) := by
  have := Go.Deep.blk_alloc_new (w.alloc (.cells #[.int .i64 K, .string u1, .string u2, .string u3, .slice A4 n4 c4, .slice A5 n5 c5] 38)) (.cells #[.string x.a, .string x.b, .string x.c] 30)
  rw [hW, Below.heap_alloc _ _ _ (by simp)]
  simpa using this
 have e2 : W.heap[w.heap.size + 1 + 1]? = some (.cells #[.func (.func 15) #[] #[.pointer (some ⟨w.heap.size + 1, 0, none⟩)]] 44) := by
  have := Go.Deep.blk_alloc_new ((w.alloc (.cells #[.int .i64 K, .string u1, .string u2, .string u3, .slice A4 n4 c4, .slice A5 n5 c5] 38)).alloc (.cells #[.string x.a, .string x.b, .string x.c] 30)) (.cells #[.func (.func 15) #[] #[.pointer (some ⟨w.heap.size + 1, 0, none⟩)]] 44)
  rw [hW]
  simpa using this
 have hIs : ∀ k (hk : k < l.length), Asks W 15 (.pointer (some ⟨w.heap.size + 1, 0, none⟩)) l[k] (qs[k]'(by omega)) := fun k hk => is_asks ((hA k hk).keep hb0) (hsk k hk) e1
 have hNo : ∀ k (hk : k < l.length), Asks W 18 (.pointer (some ⟨w.heap.size + 1 + 1, 0, none⟩)) l[k] (!(qs[k]'(by omega))) := fun k hk => not_asks (hIs k hk) (hsk k hk) e2
 have hcS := Lib.hid (contains_calls W (.slice A4 n4 c4) subs x (hs.keep hb0) hsl)
 have hcK := Lib.hid (containsF_calls1 W (.slice A5 n5 c5) _ l qs (hk.keep hb0) hq hl hIs hsk)
 have hKK : RowKit.Hid (∀ w2, Below W.heap.size W w2 → Calls Try.prog 17 #[.slice A5 n5 c5, .func (.func 15) #[] #[.pointer (some ⟨w.heap.size + 1, 0, none⟩)]] w2 fun e w' => e = .returned (.bool (qs.any id)) ∧ Below w2.heap.size w2 w') := Lib.hid fun w2 hb => containsF_calls1 w2 (.slice A5 n5 c5) _ l qs ((hk.keep hb0).keep hb) hq hl (fun k hk => (hIs k hk).keep hb) hsk
 have hNN : RowKit.Hid (Calls Try.prog 17 #[.slice A5 n5 c5, .func (.func 18) #[] #[.pointer (some ⟨w.heap.size + 1 + 1, 0, none⟩)]] W fun e w' => e = .returned (.bool ((qs.map (!·)).any id)) ∧ Below W.heap.size W w') := Lib.hid (containsF_calls2 W (.slice A5 n5 c5) _ l (qs.map (!·)) (hk.keep hb0) (by rw [List.length_map]; exact hq) hl (fun k hk => by rw [List.getElem_map]; exact hNo k hk) hsk)
 have lt0 := Lib.hid (Array.getElem?_eq_some_iff.1 e0).1
 have lt2 := Lib.hid (Array.getElem?_eq_some_iff.1 e2).1
 replace hb0 := Lib.hid hb0
 replace e0 := Lib.hid e0
 replace e1 := Lib.hid e1
 replace e2 := Lib.hid e2
 obtain ⟨xa, xb, xc⟩ := x
 obtain ⟨R, hR⟩ : ∃ R : Bool, RowKit.Hid (hasK K (decide ((⟨xa, xb, xc⟩ : S3) ∈ subs)) qs = R) := ⟨_, Lib.hid rfl⟩
 suffices hsuff : Calls Try.prog 8 #[.agg #[.int .i64 K, .string u1, .string u2, .string u3, .slice A4 n4 c4, .slice A5 n5 c5], .agg #[.string xa, .string xb, .string xc]] w (fun e w' => e = .returned (.bool R) ∧ Below w.heap.size w w') by
  rw [← hR.out] at hsuff
  exact hsuff
 show Calls Try.prog 8 #[.agg #[.int .i64 K, .string u1, .string u2, .string u3, .slice A4 n4 c4, .slice A5 n5 c5], .agg #[.string xa, .string xb, .string xc]] w _
 replace hW := Lib.hid hW
 go_enter Try.func8, Try.ntmps8
 go_upto_region 2 with (fail)
 rw [← hW.out]
 have g0 : W.cell? ⟨w.heap.size, 0, none⟩ = some (.int .i64 K) := Go.Joins.cell_of_block e0.out 0
 have g4 : W.cell? ⟨w.heap.size, 4, none⟩ = some (.slice A4 n4 c4) := Go.Joins.cell_of_block e0.out 4
 have g5 : W.cell? ⟨w.heap.size, 5, none⟩ = some (.slice A5 n5 c5) := Go.Joins.cell_of_block e0.out 5
 have h0 : W.cell? ⟨w.heap.size + 1, 0, none⟩ = some (.string xa) := Go.Joins.cell_of_block e1.out 0
 have h1 : W.cell? ⟨w.heap.size + 1, 1, none⟩ = some (.string xb) := Go.Joins.cell_of_block e1.out 1
 have h2 : W.cell? ⟨w.heap.size + 1, 2, none⟩ = some (.string xc) := Go.Joins.cell_of_block e1.out 2
 have i0 : W.cell? ⟨w.heap.size + 1 + 1, 0, none⟩ = some (.func (.func 15) #[] #[.pointer (some ⟨w.heap.size + 1, 0, none⟩)]) := Go.Joins.cell_of_block e2.out 0
 by_cases k1 : K = 1
 ·subst k1
  clear hNo hIs hA hsk hq
  have hz : R = (decide ((⟨xa, xb, xc⟩ : S3) ∈ subs) || qs.any id) := by rw [← hR.out]; rfl
  clear hR
  generalize decide ((⟨xa, xb, xc⟩ : S3) ∈ subs) = z at *
  replace hz := Lib.hid hz
  go_wp2_with (go_at_fn 16)
  refine Calls.mono hcS.out ?_
  rintro e w2 ⟨rfl, hb⟩
  cases z with
  | true =>
   replace hb := Lib.hid hb
   go_wp2
   go_ret
   exact ⟨by rw [hz.out]; rfl, hb0.out.trans (hb.out.mono hb0.out.size)⟩
  | false =>
   have g5' := (hb.cell (p := ⟨w.heap.size, 5, none⟩) lt0.out).trans g5
   have i0' := (hb.cell (p := ⟨w.heap.size + 1 + 1, 0, none⟩) lt2.out).trans i0
   have hcK2 := Lib.hid (hKK.out w2 hb)
   replace hb := Lib.hid hb
   go_wp2_with (go_at_fn 17)
   refine Calls.mono hcK2.out ?_
   rintro e w3 ⟨rfl, hb3⟩
   replace hb3 := Lib.hid hb3
   go_wp2
   go_ret
   exact ⟨by rw [hz.out]; rfl, (hb0.out.trans (hb.out.mono hb0.out.size)).trans (hb3.out.mono (hb0.out.trans (hb.out.mono hb0.out.size)).size)⟩
 by_cases k2 : K = 2 ∨ K = 3
 ·have hz : R = qs.any id := by
   rw [← hR.out]
   unfold hasK
   rw [if_neg k1, if_pos k2]
  replace hz := Lib.hid hz
  clear hcS hR
  rcases k2 with k2 | k2
  ·replace k2 : K = 2 := k2
   subst k2
   go_wp2_with (go_at_fn 17)
   refine Calls.mono hcK.out ?_
   rintro e w3 ⟨rfl, hb3⟩
   replace hb3 := Lib.hid hb3
   go_wp2
   go_ret
   exact ⟨by rw [hz.out]; rfl, hb0.out.trans (hb3.out.mono hb0.out.size)⟩
  ·subst k2
   go_wp2_with (go_at_fn 17)
   refine Calls.mono hcK.out ?_
   rintro e w3 ⟨rfl, hb3⟩
   replace hb3 := Lib.hid hb3
   go_wp2
   go_ret
   exact ⟨by rw [hz.out]; rfl, hb0.out.trans (hb3.out.mono hb0.out.size)⟩
 by_cases k4 : K = 4
 ·subst k4
  by_cases h0l : l = []
  ·have n0 : n5 = 0 := by
    rcases hk with ⟨_, a, c, h⟩ | ⟨b, o, c, h, _⟩
    ·cases h; rfl
    ·cases h; rw [h0l]; rfl
   have q0 : qs = [] := by rw [h0l] at hq; exact List.length_eq_zero_iff.1 hq
   subst q0
   subst n0
   have hz : R = false := by rw [← hR.out]; rfl
   replace hz := Lib.hid hz
   clear hcS hcK hKK hR
   go_wp2
   go_ret
   exact ⟨by rw [hz.out]; rfl, hb0.out⟩
  ·have n0 : 0 < n5 := by
    rcases hk with ⟨h, _⟩ | ⟨b, o, c, h, _⟩
    ·exact absurd h h0l
    ·cases h; exact List.length_pos_iff.2 h0l
   have hz : R = !((qs.map (!·)).any id) := by
    rw [← hR.out]
    have : qs.isEmpty = false := by
     cases qs with
     | nil => exact absurd (List.length_eq_zero_iff.1 hq.symm) h0l
     | cons _ _ => rfl
    unfold hasK
    rw [if_neg (by decide), if_neg (by decide), if_pos rfl, this]
    simp [List.all_eq_not_any_not]
   have n1 : (0 : Int) < n5 := by omega
   clear hcS hcK hKK hR
   have hcN := Lib.hid hNN.out
   generalize (qs.map (!·)).any id = z at *
   replace hz := Lib.hid hz
   go_wp2_with (go_at_fn 17)
   refine Calls.mono hcN.out ?_
   rintro e w3 ⟨rfl, hb3⟩
   replace hb3 := Lib.hid hb3
   go_wp2
   go_ret
   exact ⟨by rw [hz.out]; rfl, hb0.out.trans (hb3.out.mono hb0.out.size)⟩
 by_cases k5 : K = 5
 ·subst k5
  clear hcS hcK hKK hNN hNo
  by_cases h2l : l.length = 2
  ·obtain ⟨⟨y0, y1, y2, y3, y4, y5⟩, ⟨z0, z1, z2, z3, z4, z5⟩, rfl⟩ : ∃ y z, l = [y, z] := by
    match l, h2l with
    | [y, z], _ => exact ⟨y, z, rfl⟩
   obtain ⟨q1, q2, rfl⟩ : ∃ q1 q2, qs = [q1, q2] := by
    match qs, hq with
    | [q1, q2], _ => exact ⟨q1, q2, rfl⟩
   have hz : R = (q1 && !q2) := by rw [← hR.out]; rfl
   rcases hk with ⟨h, _⟩ | ⟨b, o, c, h, hrow⟩
   ·cases h
   obtain ⟨rfl, rfl, rfl⟩ : A5 = some ⟨b, o, none⟩ ∧ n5 = 2 ∧ c5 = c := by cases h; exact ⟨rfl, rfl, rfl⟩
   clear h
   have sk0 := hsk 0 (show 0 < 2 by decide)
   have sk1 := hsk 1 (show 1 < 2 by decide)
   obtain ⟨⟨y4A, y4n, y4c, e4⟩, ⟨y5A, y5n, y5c, e5⟩⟩ := sk0
   have e4 : y4 = _ := e4
   have e5 : y5 = _ := e5
   subst e4
   subst e5
   obtain ⟨⟨z4A, z4n, z4c, e4⟩, ⟨z5A, z5n, z5c, e5⟩⟩ := sk1
   have e4 : z4 = _ := e4
   have e5 : z5 = _ := e5
   subst e4
   subst e5
   have hSS : RowKit.Hid (∀ w' : World, Below W.heap.size W w' → (w'.cell? ⟨b, o, none⟩ = some (.int .i64 y0) ∧ w'.cell? ⟨b, o + 1, none⟩ = some (.string y1) ∧ w'.cell? ⟨b, o + 2, none⟩ = some (.string y2) ∧ w'.cell? ⟨b, o + 3, none⟩ = some (.string y3) ∧ w'.cell? ⟨b, o + 4, none⟩ = some (.slice y4A y4n y4c) ∧ w'.cell? ⟨b, o + 5, none⟩ = some (.slice y5A y5n y5c) ∧ w'.cell? ⟨b, o + 6, none⟩ = some (.int .i64 z0) ∧ w'.cell? ⟨b, o + 7, none⟩ = some (.string z1) ∧ w'.cell? ⟨b, o + 8, none⟩ = some (.string z2) ∧ w'.cell? ⟨b, o + 9, none⟩ = some (.string z3) ∧ w'.cell? ⟨b, o + 10, none⟩ = some (.slice z4A z4n z4c) ∧ w'.cell? ⟨b, o + 11, none⟩ = some (.slice z5A z5n z5c) ∧ w'.cell? ⟨w.heap.size, 5, none⟩ = some (.slice (some ⟨b, o, none⟩) 2 c5) ∧ w'.cell? ⟨w.heap.size + 1 + 1, 0, none⟩ = some (.func (.func 15) #[] #[.pointer (some ⟨w.heap.size + 1, 0, none⟩)])) ∧ Below W.heap.size W w') := Lib.hid fun w' hw' => ⟨by
    have r := (hrow.keep hb0.out).keep hw'
    have a0 := r.at0 0 (show 0 < 2 by decide)
    have a1 := r.at1 0 (show 0 < 2 by decide)
    have a2 := r.at2 0 (show 0 < 2 by decide)
    have a3 := r.at3 0 (show 0 < 2 by decide)
    have a4 := r.at4 0 (show 0 < 2 by decide)
    have a5 := r.at5 0 (show 0 < 2 by decide)
    have b0 := r.at0 1 (show 1 < 2 by decide)
    have b1 := r.at1 1 (show 1 < 2 by decide)
    have b2 := r.at2 1 (show 1 < 2 by decide)
    have b3 := r.at3 1 (show 1 < 2 by decide)
    have b4 := r.at4 1 (show 1 < 2 by decide)
    have b5 := r.at5 1 (show 1 < 2 by decide)
    simp only [Nat.zero_mul, Nat.one_mul, Nat.add_zero, Nat.add_assoc] at a0 a1 a2 a3 a4 a5 b0 b1 b2 b3 b4 b5
    exact ⟨a0, a1, a2, a3, a4, a5, b0, b1, b2, b3, b4, b5, (hw'.cell (p := ⟨w.heap.size, 5, none⟩) lt0.out).trans g5, (hw'.cell (p := ⟨w.heap.size + 1 + 1, 0, none⟩) lt2.out).trans i0⟩, hw'⟩
   have lts : b < W.heap.size := Nat.lt_of_lt_of_le hrow.lt hb0.out.size
   have hA0 := Lib.hid (hIs 0 (show 0 < 2 by decide))
   have hA1 := Lib.hid (hIs 1 (show 1 < 2 by decide))
   clear hrow hIs hA hsk hR
   replace hz := Lib.hid hz
   have hA0 : RowKit.Hid (∀ w1, Below W.heap.size W w1 → Calls Try.prog 15 #[.agg #[.int .i64 y0, .string y1, .string y2, .string y3, .slice y4A y4n y4c, .slice y5A y5n y5c], .pointer (some ⟨w.heap.size + 1, 0, none⟩)] w1 fun e w' => e = .returned (.bool q1) ∧ Below w1.heap.size w1 w') := hA0
   have hA1 : RowKit.Hid (∀ w1, Below W.heap.size W w1 → Calls Try.prog 15 #[.agg #[.int .i64 z0, .string z1, .string z2, .string z3, .slice z4A z4n z4c, .slice z5A z5n z5c], .pointer (some ⟨w.heap.size + 1, 0, none⟩)] w1 fun e w' => e = .returned (.bool q2) ∧ Below w1.heap.size w1 w') := hA1
   go_upto_region 11 with (fail)
   refine Fr.wp_region_free (by kernel_rfl) (hasaS w.heap.size b o c5 q1 q2 (.func (.func 15) #[] #[.pointer (some ⟨w.heap.size + 1, 0, none⟩)]) (.agg #[.int .i64 y0, .string y1, .string y2, .string y3, .slice y4A y4n y4c, .slice y5A y5n y5c]) (.agg #[.int .i64 z0, .string z1, .string z2, .string z3, .slice z4A z4n z4c, .slice z5A z5n z5c])) hasaD (by kernel_rfl) (by kernel_rfl) (hasaSt _ _ _ _ _ _ _ _ _) ?_ ?_
   refine ⟨?_, ?_, ?_, ?_, ?_, ?_, ?_, ?_, ?_, ?_, ?_, ?_, ?_, ?_, ?_, ?_, ?_, ?_, ?_, ?_, ?_, ?_, trivial⟩
   ·skip
    intro f a wz K hE hA hO hF hK
    have o2 : a.tmps[2]? = some (.pointer (some ⟨w.heap.size, 0, none⟩)) := (hO 2 (by simp)).trans rfl
    clear hA hO hF
    go_simp
    exact hK _ _ (Below.refl _ _) rfl
   ·skip
    intro f a wz K hE hA hO hF hK
    have e43 : a.tmps[43]? = some (f 0) := hA 0 (by simp) 43 rfl
    have h0 : (f 0) = .pointer (some ⟨w.heap.size, 5, none⟩) := hF.1
    clear hA hO hF
    obtain ⟨qa0, qa1, qa2, qa3, qa4, qa5, qb0, qb1, qb2, qb3, qb4, qb5, qk, qi⟩ := (hSS.out wz hE).1
    go_simp
    exact hK _ _ (Below.refl _ _) rfl
   ·skip
    intro f a wz K hE hA hO hF hK
    have e44 : a.tmps[44]? = some (f 1) := hA 1 (by simp) 44 rfl
    have h1 : (f 1) = .slice (some ⟨b, o, none⟩) 2 c5 := hF.1
    clear hA hO hF
    go_simp
    exact hK _ _ (Below.refl _ _) rfl
   ·skip
    intro f a wz K hE hA hO hF hK
    have e45 : a.tmps[45]? = some (f 2) := hA 2 (by simp) 45 rfl
    have h2 : (f 2) = .int .i64 2 := hF.1
    clear hA hO hF
    go_simp
    exact hK _ _ (Below.refl _ _) rfl
   ·skip
    intro f a wz K hE hA hO hF hK
    have e46 : a.tmps[46]? = some (f 3) := hA 3 (by simp) 46 rfl
    have h3 : (f 3) = .bool true := hF.1
    clear hA hO hF
    go_simp
    exact hK _ _ (Below.refl _ _) rfl
   ·skip
    intro f a wz K hE hA hO hF hK
    have e47 : a.tmps[47]? = some (f 4) := hA 4 (by simp) 47 rfl
    have o5 : a.tmps[5]? = some (.pointer (some ⟨w.heap.size + 1 + 1, 0, none⟩)) := (hO 5 (by simp)).trans rfl
    have h4 : (f 4) = .bool true := hF.1
    clear hA hO hF
    obtain ⟨qa0, qa1, qa2, qa3, qa4, qa5, qb0, qb1, qb2, qb3, qb4, qb5, qk, qi⟩ := (hSS.out wz hE).1
    go_simp
    exact hK _ _ (Below.refl _ _) rfl
   ·skip
    intro f a wz K hE hA hO hF hK
    have e47 : a.tmps[47]? = some (f 4) := hA 4 (by simp) 47 rfl
    have o2 : a.tmps[2]? = some (.pointer (some ⟨w.heap.size, 0, none⟩)) := (hO 2 (by simp)).trans rfl
    have h4 : (f 4) = .bool true := hF.1
    clear hA hO hF
    go_simp
    exact hK _ _ (Below.refl _ _) rfl
   ·skip
    intro f a wz K hE hA hO hF hK
    have e49 : a.tmps[49]? = some (f 6) := hA 6 (by simp) 49 rfl
    have e47 : a.tmps[47]? = some (f 4) := hA 4 (by simp) 47 rfl
    have h6 : (f 6) = .pointer (some ⟨w.heap.size, 5, none⟩) := hF.1
    have h4 : (f 4) = .bool true := hF.2.1
    clear hA hO hF
    obtain ⟨qa0, qa1, qa2, qa3, qa4, qa5, qb0, qb1, qb2, qb3, qb4, qb5, qk, qi⟩ := (hSS.out wz hE).1
    go_simp
    exact hK _ _ (Below.refl _ _) rfl
   ·skip
    intro f a wz K hE hA hO hF hK
    have e50 : a.tmps[50]? = some (f 7) := hA 7 (by simp) 50 rfl
    have e47 : a.tmps[47]? = some (f 4) := hA 4 (by simp) 47 rfl
    have h7 : (f 7) = .slice (some ⟨b, o, none⟩) 2 c5 := hF.1
    have h4 : (f 4) = .bool true := hF.2.1
    clear hA hO hF
    go_simp
    exact hK _ _ (Below.refl _ _) rfl
   ·skip
    intro f a wz K hE hA hO hF hK
    have e51 : a.tmps[51]? = some (f 8) := hA 8 (by simp) 51 rfl
    have e47 : a.tmps[47]? = some (f 4) := hA 4 (by simp) 47 rfl
    have h8 : (f 8) = .pointer (some ⟨b, o, none⟩) := hF.1
    have h4 : (f 4) = .bool true := hF.2.1
    clear hA hO hF
    obtain ⟨qa0, qa1, qa2, qa3, qa4, qa5, qb0, qb1, qb2, qb3, qb4, qb5, qk, qi⟩ := (hSS.out wz hE).1
    go_simp
    exact hK _ _ (Below.refl _ _) rfl
   ·skip
    intro f a wz K hE hA hO hF hK
    have e48 : a.tmps[48]? = some (f 5) := hA 5 (by simp) 48 rfl
    have e52 : a.tmps[52]? = some (f 9) := hA 9 (by simp) 52 rfl
    have e47 : a.tmps[47]? = some (f 4) := hA 4 (by simp) 47 rfl
    have h5 : (f 5) = .func (.func 15) #[] #[.pointer (some ⟨w.heap.size + 1, 0, none⟩)] := hF.1
    have h9 : (f 9) = .agg #[.int .i64 y0, .string y1, .string y2, .string y3, .slice y4A y4n y4c, .slice y5A y5n y5c] := hF.2.1
    have h4 : (f 4) = .bool true := hF.2.2.1
    clear hA hO hF
    go_simp
    refine (hA0.out _ hE).mono ?_
    rintro e w2 ⟨rfl, hb⟩
    exact ⟨_, rfl, hK _ _ hb rfl⟩
   ·skip
    intro f a wz K hE hA hO hF hK
    have e47 : a.tmps[47]? = some (f 4) := hA 4 (by simp) 47 rfl
    have e53 : a.tmps[53]? = some (f 10) := hA 10 (by simp) 53 rfl
    have h4 : (f 4) = .bool true := hF.1
    have h10 : (f 10) = .bool q1 := hF.2.1
    clear hA hO hF
    cases q1 <;> go_simp <;> exact hK _ _ (Below.refl _ _) rfl
   ·skip
    intro f a wz K hE hA hO hF hK
    have e54 : a.tmps[54]? = some (f 11) := hA 11 (by simp) 54 rfl
    have h11 : (f 11) = .bool q1 := hF.1
    clear hA hO hF
    go_simp
    exact hK _ _ (Below.refl _ _) rfl
   ·skip
    intro f a wz K hE hA hO hF hK
    have e55 : a.tmps[55]? = some (f 12) := hA 12 (by simp) 55 rfl
    have o5 : a.tmps[5]? = some (.pointer (some ⟨w.heap.size + 1 + 1, 0, none⟩)) := (hO 5 (by simp)).trans rfl
    have h12 : (f 12) = .bool q1 := hF.1
    clear hA hO hF
    cases q1 with
    | false =>
     go_simp
     exact hK _ _ (Below.refl _ _) (fun h => by cases h)
    | true =>
     obtain ⟨qa0, qa1, qa2, qa3, qa4, qa5, qb0, qb1, qb2, qb3, qb4, qb5, qk, qi⟩ := (hSS.out wz hE).1
     go_simp
     exact hK _ _ (Below.refl _ _) (fun _ => rfl)
   ·skip
    intro f a wz K hE hA hO hF hK
    have e55 : a.tmps[55]? = some (f 12) := hA 12 (by simp) 55 rfl
    have o2 : a.tmps[2]? = some (.pointer (some ⟨w.heap.size, 0, none⟩)) := (hO 2 (by simp)).trans rfl
    have h12 : (f 12) = .bool q1 := hF.1
    clear hA hO hF
    cases q1 with
    | false =>
     go_simp
     exact hK _ _ (Below.refl _ _) (fun h => by cases h)
    | true =>
     go_simp
     exact hK _ _ (Below.refl _ _) (fun _ => rfl)
   ·skip
    intro f a wz K hE hA hO hF hK
    have e57 : a.tmps[57]? = some (f 14) := hA 14 (by simp) 57 rfl
    have e55 : a.tmps[55]? = some (f 12) := hA 12 (by simp) 55 rfl
    have h14 : q1 = true → (f 14) = .pointer (some ⟨w.heap.size, 5, none⟩) := hF.1
    have h12 : (f 12) = .bool q1 := hF.2.1
    clear hA hO hF
    cases q1 with
    | false =>
     go_simp
     exact hK _ _ (Below.refl _ _) (fun h => by cases h)
    | true =>
     have h14 := h14 rfl
     obtain ⟨qa0, qa1, qa2, qa3, qa4, qa5, qb0, qb1, qb2, qb3, qb4, qb5, qk, qi⟩ := (hSS.out wz hE).1
     go_simp
     exact hK _ _ (Below.refl _ _) (fun _ => rfl)
   ·skip
    intro f a wz K hE hA hO hF hK
    have e58 : a.tmps[58]? = some (f 15) := hA 15 (by simp) 58 rfl
    have e55 : a.tmps[55]? = some (f 12) := hA 12 (by simp) 55 rfl
    have h15 : q1 = true → (f 15) = .slice (some ⟨b, o, none⟩) 2 c5 := hF.1
    have h12 : (f 12) = .bool q1 := hF.2.1
    clear hA hO hF
    cases q1 with
    | false =>
     go_simp
     exact hK _ _ (Below.refl _ _) (fun h => by cases h)
    | true =>
     have h15 := h15 rfl
     go_simp
     exact hK _ _ (Below.refl _ _) (fun _ => rfl)
   ·skip
    intro f a wz K hE hA hO hF hK
    have e59 : a.tmps[59]? = some (f 16) := hA 16 (by simp) 59 rfl
    have e55 : a.tmps[55]? = some (f 12) := hA 12 (by simp) 55 rfl
    have h16 : q1 = true → (f 16) = .pointer (some ⟨b, o + 6, none⟩) := hF.1
    have h12 : (f 12) = .bool q1 := hF.2.1
    clear hA hO hF
    cases q1 with
    | false =>
     go_simp
     exact hK _ _ (Below.refl _ _) (fun h => by cases h)
    | true =>
     have h16 := h16 rfl
     obtain ⟨qa0, qa1, qa2, qa3, qa4, qa5, qb0, qb1, qb2, qb3, qb4, qb5, qk, qi⟩ := (hSS.out wz hE).1
     go_simp
     exact hK _ _ (Below.refl _ _) (fun _ => rfl)
   ·skip
    intro f a wz K hE hA hO hF hK
    have e56 : a.tmps[56]? = some (f 13) := hA 13 (by simp) 56 rfl
    have e60 : a.tmps[60]? = some (f 17) := hA 17 (by simp) 60 rfl
    have e55 : a.tmps[55]? = some (f 12) := hA 12 (by simp) 55 rfl
    have h13 : q1 = true → (f 13) = .func (.func 15) #[] #[.pointer (some ⟨w.heap.size + 1, 0, none⟩)] := hF.1
    have h17 : q1 = true → (f 17) = .agg #[.int .i64 z0, .string z1, .string z2, .string z3, .slice z4A z4n z4c, .slice z5A z5n z5c] := hF.2.1
    have h12 : (f 12) = .bool q1 := hF.2.2.1
    clear hA hO hF
    cases q1 with
    | false =>
     go_simp
     exact hK _ _ (Below.refl _ _) (fun h => by cases h)
    | true =>
     have h13 := h13 rfl
     have h17 := h17 rfl
     go_simp
     refine (hA1.out _ hE).mono ?_
     rintro e w2 ⟨rfl, hb⟩
     exact ⟨_, rfl, hK _ _ hb (fun _ => rfl)⟩
   ·skip
    intro f a wz K hE hA hO hF hK
    have e61 : a.tmps[61]? = some (f 18) := hA 18 (by simp) 61 rfl
    have e55 : a.tmps[55]? = some (f 12) := hA 12 (by simp) 55 rfl
    have h18 : q1 = true → (f 18) = .bool q2 := hF.1
    have h12 : (f 12) = .bool q1 := hF.2.1
    clear hA hO hF
    cases q1 with
    | false =>
     go_simp
     exact hK _ _ (Below.refl _ _) (fun h => by cases h)
    | true =>
     have h18 := h18 rfl
     go_simp
     exact hK _ _ (Below.refl _ _) (fun _ => rfl)
   ·skip
    intro f a wz K hE hA hO hF hK
    have e55 : a.tmps[55]? = some (f 12) := hA 12 (by simp) 55 rfl
    have e62 : a.tmps[62]? = some (f 19) := hA 19 (by simp) 62 rfl
    have h12 : (f 12) = .bool q1 := hF.1
    have h19 : q1 = true → (f 19) = .bool (!q2) := hF.2.1
    clear hA hO hF
    cases q1 with
    | false =>
     go_simp
     exact hK _ _ (Below.refl _ _) rfl
    | true =>
     have h19 := h19 rfl
     go_simp
     exact hK _ _ (Below.refl _ _) rfl
   ·skip
    intro f a wz K hE hA hO hF hK
    have e63 : a.tmps[63]? = some (f 20) := hA 20 (by simp) 63 rfl
    have h20 : (f 20) = .bool (q1 && !q2) := hF.1
    clear hA hO hF
    go_simp
    exact hK _ _ (Below.refl _ _) rfl
   intro f w1 hE hF
   have g21 : f 21 = .bool (q1 && !q2) := hF.2.2.2.2.2.2.2.2.2.2.2.2.2.2.2.2.2.2.2.2.2.1
   simp only [hasaD, Fr.puts, Act.put, List.setIfInBounds_toArray, List.set_cons_zero, List.set_cons_succ]
   clear hF
   simp only [hasaS, List.length_cons, List.length_nil, Nat.reduceAdd, List.drop_succ_cons, List.drop_nil]
   rw [g21]
   clear g21
   go_wp2
   go_ret
   exact ⟨by rw [hz.out]; rfl, hb0.out.trans (hE.mono hb0.out.size)⟩
  ·have hz : R = false := by
    rw [← hR.out]
    have : qs.length ≠ 2 := by rw [hq]; exact h2l
    unfold hasK
    rw [if_neg (by decide), if_neg (by decide), if_neg (by decide), if_pos rfl]
    match qs, this with
    | [], _ => rfl
    | [_], _ => rfl
    | _ :: _ :: _ :: _, _ => rfl
    | [_, _], h => exact absurd rfl h
   have n2 : ¬ (n5 : Int) = 2 := by
    rcases hk with ⟨h, h'⟩ | ⟨b, o, c, h, _⟩
    ·obtain ⟨a, c, h'⟩ := h'; cases h'; decide
    ·cases h; omega
   replace hz := Lib.hid hz
   have n3 : ((n5 : Int) == 2) = false := beq_eq_false_iff_ne.2 n2
   clear hIs hA hsk hR hk
   go_upto_region 11 with (fail)
   refine Fr.wp_region_free (by kernel_rfl) (hasbS w.heap.size A5 n5 c5) hasbD (by kernel_rfl) (by kernel_rfl) (hasbSt _ _ _ _) ?_ ?_
   refine ⟨?_, ?_, ?_, ?_, ?_, ?_, ?_, ?_, ?_, ?_, ?_, ?_, ?_, ?_, ?_, ?_, ?_, ?_, ?_, ?_, ?_, ?_, trivial⟩
   ·skip
    intro f a wz K hE hA hO hF hK
    have o2 : a.tmps[2]? = some (.pointer (some ⟨w.heap.size, 0, none⟩)) := (hO 2 (by simp)).trans rfl
    clear hA hO hF
    go_simp
    exact hK _ _ (Below.refl _ _) rfl
   ·skip
    intro f a wz K hE hA hO hF hK
    have e43 : a.tmps[43]? = some (f 0) := hA 0 (by simp) 43 rfl
    have h0 : (f 0) = .pointer (some ⟨w.heap.size, 5, none⟩) := hF.1
    clear hA hO hF
    have qk : wz.cell? ⟨w.heap.size, 5, none⟩ = some (.slice A5 n5 c5) := (hE.cell (p := ⟨w.heap.size, 5, none⟩) lt0.out).trans g5
    go_simp
    exact hK _ _ (Below.refl _ _) rfl
   ·skip
    intro f a wz K hE hA hO hF hK
    have e44 : a.tmps[44]? = some (f 1) := hA 1 (by simp) 44 rfl
    have h1 : (f 1) = .slice A5 n5 c5 := hF.1
    clear hA hO hF
    go_simp
    exact hK _ _ (Below.refl _ _) rfl
   ·skip
    intro f a wz K hE hA hO hF hK
    have e45 : a.tmps[45]? = some (f 2) := hA 2 (by simp) 45 rfl
    have h2 : (f 2) = .int .i64 n5 := hF.1
    clear hA hO hF
    go_simp
    exact hK _ _ (Below.refl _ _) rfl
   ·skip
    intro f a wz K hE hA hO hF hK
    have e46 : a.tmps[46]? = some (f 3) := hA 3 (by simp) 46 rfl
    have h3 : (f 3) = .bool false := hF.1
    clear hA hO hF
    go_simp
    exact hK _ _ (Below.refl _ _) rfl
   ·skip
    intro f a wz K hE hA hO hF hK
    have e47 : a.tmps[47]? = some (f 4) := hA 4 (by simp) 47 rfl
    have o5 : a.tmps[5]? = some (.pointer (some ⟨w.heap.size + 1 + 1, 0, none⟩)) := (hO 5 (by simp)).trans rfl
    have h4 : (f 4) = .bool false := hF.1
    clear hA hO hF
    go_simp
    exact hK _ _ (Below.refl _ _) trivial
   ·skip
    intro f a wz K hE hA hO hF hK
    have e47 : a.tmps[47]? = some (f 4) := hA 4 (by simp) 47 rfl
    have o2 : a.tmps[2]? = some (.pointer (some ⟨w.heap.size, 0, none⟩)) := (hO 2 (by simp)).trans rfl
    have h4 : (f 4) = .bool false := hF.1
    clear hA hO hF
    go_simp
    exact hK _ _ (Below.refl _ _) trivial
   ·skip
    intro f a wz K hE hA hO hF hK
    have e49 : a.tmps[49]? = some (f 6) := hA 6 (by simp) 49 rfl
    have e47 : a.tmps[47]? = some (f 4) := hA 4 (by simp) 47 rfl
    have h4 : (f 4) = .bool false := hF.2.1
    clear hA hO hF
    go_simp
    exact hK _ _ (Below.refl _ _) trivial
   ·skip
    intro f a wz K hE hA hO hF hK
    have e50 : a.tmps[50]? = some (f 7) := hA 7 (by simp) 50 rfl
    have e47 : a.tmps[47]? = some (f 4) := hA 4 (by simp) 47 rfl
    have h4 : (f 4) = .bool false := hF.2.1
    clear hA hO hF
    go_simp
    exact hK _ _ (Below.refl _ _) trivial
   ·skip
    intro f a wz K hE hA hO hF hK
    have e51 : a.tmps[51]? = some (f 8) := hA 8 (by simp) 51 rfl
    have e47 : a.tmps[47]? = some (f 4) := hA 4 (by simp) 47 rfl
    have h4 : (f 4) = .bool false := hF.2.1
    clear hA hO hF
    go_simp
    exact hK _ _ (Below.refl _ _) trivial
   ·skip
    intro f a wz K hE hA hO hF hK
    have e48 : a.tmps[48]? = some (f 5) := hA 5 (by simp) 48 rfl
    have e52 : a.tmps[52]? = some (f 9) := hA 9 (by simp) 52 rfl
    have e47 : a.tmps[47]? = some (f 4) := hA 4 (by simp) 47 rfl
    have h4 : (f 4) = .bool false := hF.2.2.1
    clear hA hO hF
    go_simp
    exact hK _ _ (Below.refl _ _) trivial
   ·skip
    intro f a wz K hE hA hO hF hK
    have e47 : a.tmps[47]? = some (f 4) := hA 4 (by simp) 47 rfl
    have e53 : a.tmps[53]? = some (f 10) := hA 10 (by simp) 53 rfl
    have h4 : (f 4) = .bool false := hF.1
    clear hA hO hF
    go_simp
    exact hK _ _ (Below.refl _ _) rfl
   ·skip
    intro f a wz K hE hA hO hF hK
    have e54 : a.tmps[54]? = some (f 11) := hA 11 (by simp) 54 rfl
    have h11 : (f 11) = .bool false := hF.1
    clear hA hO hF
    go_simp
    exact hK _ _ (Below.refl _ _) rfl
   ·skip
    intro f a wz K hE hA hO hF hK
    have e55 : a.tmps[55]? = some (f 12) := hA 12 (by simp) 55 rfl
    have o5 : a.tmps[5]? = some (.pointer (some ⟨w.heap.size + 1 + 1, 0, none⟩)) := (hO 5 (by simp)).trans rfl
    have h12 : (f 12) = .bool false := hF.1
    clear hA hO hF
    go_simp
    exact hK _ _ (Below.refl _ _) trivial
   ·skip
    intro f a wz K hE hA hO hF hK
    have e55 : a.tmps[55]? = some (f 12) := hA 12 (by simp) 55 rfl
    have o2 : a.tmps[2]? = some (.pointer (some ⟨w.heap.size, 0, none⟩)) := (hO 2 (by simp)).trans rfl
    have h12 : (f 12) = .bool false := hF.1
    clear hA hO hF
    go_simp
    exact hK _ _ (Below.refl _ _) trivial
   ·skip
    intro f a wz K hE hA hO hF hK
    have e57 : a.tmps[57]? = some (f 14) := hA 14 (by simp) 57 rfl
    have e55 : a.tmps[55]? = some (f 12) := hA 12 (by simp) 55 rfl
    have h12 : (f 12) = .bool false := hF.2.1
    clear hA hO hF
    go_simp
    exact hK _ _ (Below.refl _ _) trivial
   ·skip
    intro f a wz K hE hA hO hF hK
    have e58 : a.tmps[58]? = some (f 15) := hA 15 (by simp) 58 rfl
    have e55 : a.tmps[55]? = some (f 12) := hA 12 (by simp) 55 rfl
    have h12 : (f 12) = .bool false := hF.2.1
    clear hA hO hF
    go_simp
    exact hK _ _ (Below.refl _ _) trivial
   ·skip
    intro f a wz K hE hA hO hF hK
    have e59 : a.tmps[59]? = some (f 16) := hA 16 (by simp) 59 rfl
    have e55 : a.tmps[55]? = some (f 12) := hA 12 (by simp) 55 rfl
    have h12 : (f 12) = .bool false := hF.2.1
    clear hA hO hF
    go_simp
    exact hK _ _ (Below.refl _ _) trivial
   ·skip
    intro f a wz K hE hA hO hF hK
    have e56 : a.tmps[56]? = some (f 13) := hA 13 (by simp) 56 rfl
    have e60 : a.tmps[60]? = some (f 17) := hA 17 (by simp) 60 rfl
    have e55 : a.tmps[55]? = some (f 12) := hA 12 (by simp) 55 rfl
    have h12 : (f 12) = .bool false := hF.2.2.1
    clear hA hO hF
    go_simp
    exact hK _ _ (Below.refl _ _) trivial
   ·skip
    intro f a wz K hE hA hO hF hK
    have e61 : a.tmps[61]? = some (f 18) := hA 18 (by simp) 61 rfl
    have e55 : a.tmps[55]? = some (f 12) := hA 12 (by simp) 55 rfl
    have h12 : (f 12) = .bool false := hF.2.1
    clear hA hO hF
    go_simp
    exact hK _ _ (Below.refl _ _) trivial
   ·skip
    intro f a wz K hE hA hO hF hK
    have e55 : a.tmps[55]? = some (f 12) := hA 12 (by simp) 55 rfl
    have e62 : a.tmps[62]? = some (f 19) := hA 19 (by simp) 62 rfl
    have h12 : (f 12) = .bool false := hF.1
    clear hA hO hF
    go_simp
    exact hK _ _ (Below.refl _ _) rfl
   ·skip
    intro f a wz K hE hA hO hF hK
    have e63 : a.tmps[63]? = some (f 20) := hA 20 (by simp) 63 rfl
    have h20 : (f 20) = .bool false := hF.1
    clear hA hO hF
    go_simp
    exact hK _ _ (Below.refl _ _) rfl
   intro f w1 hE hF
   have g21 : f 21 = .bool false := hF.2.2.2.2.2.2.2.2.2.2.2.2.2.2.2.2.2.2.2.2.2.1
   simp only [hasbD, Fr.puts, Act.put, List.setIfInBounds_toArray, List.set_cons_zero, List.set_cons_succ]
   clear hF
   simp only [hasbS, List.length_cons, List.length_nil, Nat.reduceAdd, List.drop_succ_cons, List.drop_nil]
   rw [g21]
   clear g21
   go_wp2
   go_ret
   exact ⟨by rw [hz.out]; rfl, hb0.out.trans (hE.mono hb0.out.size)⟩
 ·have hz : R = false := by
   rw [← hR.out]
   unfold hasK
   rw [if_neg k1, if_neg k2, if_neg k4, if_neg k5]
  replace hz := Lib.hid hz
  have j2 : ¬ K = 2 := fun h => k2 (.inl h)
  have j3 : ¬ K = 3 := fun h => k2 (.inr h)
  clear hcS hcK k2 hR
  go_wp2
  go_ret
  exact ⟨by rw [hz.out]; rfl, hb0.out⟩
end Go.Proofs.Ytjkdbakgnnhdnaa.Tr
