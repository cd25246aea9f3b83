/-
 tree.Has: its two closures, and itself, walked by hand.
-/
import Derived.Test.YtjkdbakgnnhdnaaThb
namespace Go.Proofs.Ytjkdbakgnnhdnaa.Tr
open Go.RowKit
def hasK (kind : Int) (inS : Bool) (bs : List Bool) : Bool :=
 if kind = 1 then inS || bs.any id else if kind = 2 ∨ kind = 3 then bs.any id else if kind = 4 then !bs.isEmpty && bs.all id else if kind = 5 then (match bs with | [a, b] => a && !b | _ => false) else false
def HasAt (w : World) (x : S3) (u : N6) (q : Bool) : Prop := ∀ w1, Below w.heap.size w w1 → Calls Try.prog 8 #[u.v, x.v] w1 fun e w' => e = .returned (.bool q) ∧ Below w1.heap.size w1 w'
theorem HasAt.keep {w w' : World} {x : S3} {u : N6} {q : Bool} (h : HasAt w x u q) (hb : Below w.heap.size w w') : HasAt w' x u q := fun w1 h1 => h w1 (hb.trans (h1.mono hb.size))
set_option maxRecDepth 100000 in
set_option maxHeartbeats 1000000 in
theorem is_asks {w : World} {x : S3} {u : N6} {q : Bool} {b : Nat} (h : HasAt w x u q) (hs : isSl u.subs ∧ isSl u.kids) (hx : w.heap[b]? = some (.cells #[.string x.a, .string x.b, .string x.c] 30)) : Asks w 15 (.pointer (some ⟨b, 0, none⟩)) u q := by
 intro w1 hb1
 have hlt : b < w.heap.size := (Array.getElem?_eq_some_iff.1 hx).1
 have hx1 := (hb1.block _ hlt).trans hx
 obtain ⟨u0, u1, u2, u3, u4, u5⟩ := u
 obtain ⟨⟨A4, n4, c4, e4⟩, ⟨A5, n5, c5, e5⟩⟩ := hs
 dsimp only at e4 e5
 subst e4
 subst e5
 obtain ⟨xa, xb, xc⟩ := x
 have hcall := Lib.hid (h (w1.alloc (.cells #[.int .i64 u0, .string u1, .string u2, .string u3, .slice A4 n4 c4, .slice A5 n5 c5] 38)) (hb1.trans (((Below.refl _ w1).alloc (Nat.le_refl _) _).mono hb1.size)))
 have hlt1 : b < w1.heap.size := Nat.lt_of_lt_of_le hlt hb1.size
 have hx2 := Lib.hid (((Below.refl _ w1).alloc (Nat.le_refl _) (.cells #[.int .i64 u0, .string u1, .string u2, .string u3, .slice A4 n4 c4, .slice A5 n5 c5] 38)).block _ hlt1 |>.trans hx1)
 have b0 := Go.Joins.cell_of_block hx2.out 0
 have b1 := Go.Joins.cell_of_block hx2.out 1
 have b2 := Go.Joins.cell_of_block hx2.out 2
 clear h hx hx1 hlt
 show Calls Try.prog 15 #[.agg #[.int .i64 u0, .string u1, .string u2, .string u3, .slice A4 n4 c4, .slice A5 n5 c5], .pointer (some ⟨b, 0, none⟩)] w1 _
 go_enter Try.func15, Try.ntmps15
 go_wp2_with (go_at_fn 8)
 refine Calls.mono hcall.out ?_
 rintro e w2 ⟨rfl, hb⟩
 go_wp2
 go_ret
 exact ⟨rfl, ((Below.refl _ w1).alloc (Nat.le_refl _) _).trans (hb.mono (by simp))⟩
set_option maxRecDepth 100000 in
set_option maxHeartbeats 1000000 in
theorem not_asks {w : World} {u : N6} {q : Bool} {b c : Nat} (h : Asks w 15 (.pointer (some ⟨b, 0, none⟩)) u q) (hs : isSl u.subs ∧ isSl u.kids) (hx : w.heap[c]? = some (.cells #[.func (.func 15) #[] #[.pointer (some ⟨b, 0, none⟩)]] 44)) : Asks w 18 (.pointer (some ⟨c, 0, none⟩)) u (!q) := by
 intro w1 hb1
 have hlt : c < w.heap.size := (Array.getElem?_eq_some_iff.1 hx).1
 have hx1 := (hb1.block _ hlt).trans hx
 obtain ⟨u0, u1, u2, u3, u4, u5⟩ := u
 obtain ⟨⟨A4, n4, c4, e4⟩, ⟨A5, n5, c5, e5⟩⟩ := hs
 dsimp only at e4 e5
 subst e4
 subst e5
 have hcall : Calls Try.prog 15 #[.agg #[.int .i64 u0, .string u1, .string u2, .string u3, .slice A4 n4 c4, .slice A5 n5 c5], .pointer (some ⟨b, 0, none⟩)] (w1.alloc (.cells #[.int .i64 u0, .string u1, .string u2, .string u3, .slice A4 n4 c4, .slice A5 n5 c5] 38)) _ := (h (w1.alloc (.cells #[.int .i64 u0, .string u1, .string u2, .string u3, .slice A4 n4 c4, .slice A5 n5 c5] 38)) (hb1.trans (((Below.refl _ w1).alloc (Nat.le_refl _) _).mono hb1.size)))
 have hcall := Lib.hid hcall
 have hlt1 : c < w1.heap.size := Nat.lt_of_lt_of_le hlt hb1.size
 have hx2 := Lib.hid (((Below.refl _ w1).alloc (Nat.le_refl _) (.cells #[.int .i64 u0, .string u1, .string u2, .string u3, .slice A4 n4 c4, .slice A5 n5 c5] 38)).block _ hlt1 |>.trans hx1)
 have b0 := Go.Joins.cell_of_block hx2.out 0
 clear h hx hx1 hlt
 show Calls Try.prog 18 #[.agg #[.int .i64 u0, .string u1, .string u2, .string u3, .slice A4 n4 c4, .slice A5 n5 c5], .pointer (some ⟨c, 0, none⟩)] w1 _
 go_enter Try.func18, Try.ntmps18
 go_wp2_with (go_at_fn 15)
 refine Calls.mono hcall.out ?_
 rintro e w2 ⟨rfl, hb⟩
 go_wp2
 go_ret
 exact ⟨rfl, ((Below.refl _ w1).alloc (Nat.le_refl _) _).trans (hb.mono (by simp))⟩
end Go.Proofs.Ytjkdbakgnnhdnaa.Tr
