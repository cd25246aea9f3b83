/-
  rows.Minus, rows.Diff, rows.Plus: what they come to, as sets.
-/
import Derived.Test.YtdckfddlcmkdlaaWout
import Derived.Laws.AppendOwnNone
namespace Go.Proofs.Ytdckfddlcmkdlaa
open Go.RowKit
namespace Rset
open Cmp TO Rd

theorem ins_len (x : Tp) : ∀ l : List Tp, (ins x l).length ≤ l.length + 1
  | [] => by simp [ins]
  | y :: l => by
    have := ins_len x l
    unfold ins
    split
    · simp
    · split
      · simp; omega
      · simp
theorem ofL_len : ∀ l : List Tp, (ofL l).length ≤ l.length
  | [] => Nat.le_refl _
  | x :: l => by
    have h1 := ofL_len l
    have h2 := ins_len x (ofL l)
    show (ins x (ofL l)).length ≤ _
    simp
    omega
/-- One set of tuples without another one. -/
def minus (xs ys : List Tp) : List Tp := sub (ofL xs) (ofL ys)
theorem mem_minus {xs ys : List Tp} {x : Tp} : x ∈ minus xs ys ↔ x ∈ xs ∧ x ∉ ys := by
  unfold minus
  rw [mem_sub, mem_ofL, mem_ofL]
theorem rises_minus (xs ys : List Tp) : Rises (minus xs ys) := rises_sub (rises_ofL xs) _
theorem minus_len (xs ys : List Tp) : (minus xs ys).length ≤ xs.length := Nat.le_trans (List.length_filter_le _ _) (ofL_len xs)

set_option maxRecDepth 100000 in
set_option maxHeartbeats 1000000 in
theorem minus_any (A B : Option Addr) (n c m d : Nat) (xs ys : List Tp) (w : World) (hx : At w A n c xs) (hy : At w B m d ys) (hn : n ≤ 1000000000) (hm : m ≤ 1000000000) :
    Calls Try.prog 16 #[.slice A n c, .slice B m d] w fun e w' => ∃ A' n' c', e = .returned (.slice A' n' c') ∧ At w' A' n' c' (minus xs ys) ∧ Below w.heap.size w w' := by
  have HX := Lib.hid (RowsOf.of_any A n c xs w hx hn)
  have HY := Lib.hid hy
  have hl := ofL_len xs
  rw [hx.len] at hl
  clear hx hy
  go_enter Try.func16, Try.ntmps16
  go_wp2_with fail
  refine HX.out.mono ?_
  rintro e w1 ⟨A1, n1, c1, rfl, ha1, hb1⟩
  have HC := Lib.hid (RowsOf.of_any B m d ys w1 (HY.out.ext hb1) hm)
  have HA1 := Lib.hid ha1
  clear ha1 HX HY
  go_wp2_with fail
  refine HC.out.mono ?_
  rintro e w2 ⟨A2, n2, c2, rfl, ha2, hb2⟩
  have HD := Lib.hid (Wout.without_any A1 A2 n1 c1 n2 c2 (ofL xs) (ofL ys) w2 (HA1.out.ext hb2) ha2 (rises_ofL _) (rises_ofL _) (by have := HA1.out.len; omega))
  clear ha2 HC HA1
  go_wp2_with fail
  refine HD.out.mono ?_
  rintro e w3 ⟨A3, n3, c3, rfl, ha3, hb3⟩
  have HA3 := Lib.hid ha3
  clear ha3 HD
  go_wp2
  go_ret
  have hb12 : Below w.heap.size w w2 := hb1.trans (hb2.mono hb1.size)
  exact ⟨A3, n3, c3, rfl, HA3.out, hb12.trans (hb3.mono hb12.size)⟩

set_option maxRecDepth 100000 in
set_option maxHeartbeats 1000000 in
theorem diff_any (A B : Option Addr) (n c m d : Nat) (xs ys : List Tp) (w : World) (hx : At w A n c xs) (hy : At w B m d ys) (hn : n ≤ 1000000000) (hm : m ≤ 1000000000) :
    Calls Try.prog 20 #[.slice A n c, .slice B m d] w fun e w' => ∃ A' n' c' A2 n2 c2, e = .returned (.tuple #[.slice A' n' c', .slice A2 n2 c2]) ∧ At w' A' n' c' (minus ys xs) ∧ At w' A2 n2 c2 (minus xs ys) ∧ Below w.heap.size w w' := by
  have HX := Lib.hid (RowsOf.of_any A n c xs w hx hn)
  have HY := Lib.hid hy
  have hl := ofL_len xs
  rw [hx.len] at hl
  have hl2 := ofL_len ys
  rw [hy.len] at hl2
  clear hx hy
  go_enter Try.func20, Try.ntmps20
  go_wp2_with fail
  refine HX.out.mono ?_
  rintro e w1 ⟨A1, n1, c1, rfl, ha1, hb1⟩
  have HC := Lib.hid (RowsOf.of_any B m d ys w1 (HY.out.ext hb1) hm)
  have HA1 := Lib.hid ha1
  clear ha1 HX HY
  go_wp2_with fail
  refine HC.out.mono ?_
  rintro e w2 ⟨A2, n2, c2, rfl, ha2, hb2⟩
  have HA12 := Lib.hid (HA1.out.ext hb2)
  have HA2 := Lib.hid ha2
  have HD := Lib.hid (Wout.without_any A2 A1 n2 c2 n1 c1 (ofL ys) (ofL xs) w2 ha2 HA12.out (rises_ofL _) (rises_ofL _) (by have := ha2.len; omega))
  clear ha2 HC HA1
  go_wp2_with fail
  refine HD.out.mono ?_
  rintro e w3 ⟨A3, n3, c3, rfl, ha3, hb3⟩
  have HE := Lib.hid (Wout.without_any A1 A2 n1 c1 n2 c2 (ofL xs) (ofL ys) w3 (HA12.out.ext hb3) (HA2.out.ext hb3) (rises_ofL _) (rises_ofL _) (by have := HA12.out.len; omega))
  have HA3 := Lib.hid ha3
  clear ha3 HD HA12 HA2
  go_wp2_with fail
  refine HE.out.mono ?_
  rintro e w4 ⟨A4, n4, c4, rfl, ha4, hb4⟩
  have HA4 := Lib.hid ha4
  have HA34 := Lib.hid (HA3.out.ext hb4)
  clear ha4 HE HA3
  go_wp2
  go_ret2
  have hb12 : Below w.heap.size w w2 := hb1.trans (hb2.mono hb1.size)
  have hb13 := hb12.trans (hb3.mono hb12.size)
  exact ⟨A3, n3, c3, A4, n4, c4, rfl, HA34.out, HA4.out, hb13.trans (hb4.mono hb13.size)⟩

set_option maxRecDepth 100000 in
set_option maxHeartbeats 1000000 in
/-- append(clone, l...): the elements of the one behind the other's. -/
theorem plus_any (A B : Option Addr) (n c m d : Nat) (xs ys : List Tp) (w : World) (hx : At w A n c xs) (hy : At w B m d ys) (hn : n ≤ 400000000) (hm : m ≤ 400000000) :
    Calls Try.prog 18 #[.slice A n c, .slice B m d] w fun e w' => ∃ A' n' c', e = .returned (.slice A' n' c') ∧ At w' A' n' c' (ofL (xs ++ ys)) ∧ Below w.heap.size w w' := by
  have HX := Lib.hid (Of.clone_any A n c xs w hx (by omega))
  have HY := Lib.hid hy
  obtain ⟨i0, hi0, hz0, hz1, hz2⟩ := info_parts Of.infoTp
  clear hx hy
  go_enter Try.func18, Try.ntmps18
  go_wp2_with fail
  refine HX.out.mono ?_
  rintro e w1 ⟨A1, c1, rfl, hown, hb1⟩
  have HOWN := Lib.hid hown
  have HY1 := Lib.hid (HY.out.ext hb1)
  clear hown HX HY
  cases B with
  | none =>
    have hys : ys = [] := by
      cases ys with
      | nil => rfl
      | cons y ys =>
        obtain ⟨b, o, e, _⟩ := HY1.out.at_ 0 y rfl
        cases e
    have hm0 : m = 0 := by
      have := HY1.out.len
      rw [hys] at this
      exact this.symm
    have hd0 := HY1.out.nilc rfl
    subst hys
    subst hm0
    subst hd0
    have HC := Lib.hid (RowsOf.of_any A1 n c1 xs w1 (At.of_own HOWN.out) (by omega))
    go_wp2_with (at_builtin; refine wpList_append_own_none rfl _ _ 23 rfl w.heap.size 41 i0 6 Try.underlying23 hi0 _ _ _ rfl HOWN.out rfl ?_)
    refine HC.out.mono ?_
    rintro e w3 ⟨A3, n3, c3, rfl, ha3, hb3⟩
    have HA3 := Lib.hid ha3
    clear ha3 HC
    go_wp2
    go_ret
    exact ⟨A3, n3, c3, rfl, by simpa using HA3.out, hb1.trans (hb3.mono hb1.size)⟩
  | some ad =>
    go_wp2_with (at_builtin; refine wpList_append_own _ rfl _ _ 23 rfl w.heap.size 41 i0 _ 6 96 Try.underlying23 hi0 hz0 hz1 hz2 rfl (by decide) _ _ _ rfl HOWN.out ad m d (flat ys) rfl ?qc1 ?qc2 ?qc3 ?qc4 ?qc5 ?qc6 ?_)
    case qc1 => rw [flat_len, HY1.out.len]
    case qc2 => exact Of.news_at HY1.out
    case qc3 => exact flat_one ys
    case qc4 => simp only [maxLen]; omega
    case qc5 => omega
    case qc6 => exact hb1.size
    intro v' w2 hown2 hgrow2 _
    have hb2 : Below w.heap.size w w2 := hb1.grown hgrow2 hb1.size (by
      intro q hq
      rcases HOWN.out.2 with ⟨hv, _⟩ | ⟨g, cap, cur, hv, hg, _⟩
      · rw [hv] at hq
        simp [Value.ownBlock] at hq
      · rw [hv] at hq
        simp [Value.ownBlock] at hq
        omega)
    obtain ⟨A2, c2, hv2⟩ := Own.slice_of hown2
    rw [hv2, ← flat_append] at hown2
    have HC := Lib.hid (RowsOf.of_any A2 (n + m) c2 (xs ++ ys) w2 (At.of_own hown2) (by omega))
    rw [hv2]
    clear hown2 hgrow2 hv2
    go_wp2_with fail
    refine HC.out.mono ?_
    rintro e w3 ⟨A3, n3, c3, rfl, ha3, hb3⟩
    have HA3 := Lib.hid ha3
    clear ha3 HC
    go_wp2
    go_ret
    exact ⟨A3, n3, c3, rfl, HA3.out, hb2.trans (hb3.mono hb2.size)⟩
end Rset
end Go.Proofs.Ytdckfddlcmkdlaa
