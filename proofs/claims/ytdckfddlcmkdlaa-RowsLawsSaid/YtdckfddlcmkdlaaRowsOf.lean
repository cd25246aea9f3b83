/-
  rows.Of: the set of a list of tuples, in memory of the call's own.
-/
import Derived.Test.YtdckfddlcmkdlaaCpt
namespace Go.Proofs.Ytdckfddlcmkdlaa
open Go.RowKit
namespace RowsOf
open Cmp TO Rd

set_option maxRecDepth 100000 in
set_option maxHeartbeats 1000000 in
theorem compact_none (w : World) : Calls Try.prog 58 #[.slice none 0 0] w fun e w' => e = .returned (.slice none 0 0) ∧ w = w' := by
  go_enter Try.func58, Try.ntmps58
  go_wp2
  go_ret
  exact ⟨rfl, rfl⟩
theorem sortL_len (xs : List Tp) : (Srt.sortL xs).length = xs.length := (List.mergeSort_perm _ _).length_eq
theorem compact_any (A : Option Addr) (n c base : Nat) (xs : List Tp) (w : World) (h : w.ownsRow base 41 6 (.slice A n c) n (flat (Srt.sortL xs))) (hn : n ≤ 1000000000) :
    Calls Try.prog 58 #[.slice A n c] w fun e w' => ∃ A' n' c', e = .returned (.slice A' n' c') ∧ At w' A' n' c' (ofL xs) ∧ Below base w w' := by
  have hl := (At.of_own h).len
  rcases h.2 with ⟨hv, h0⟩ | ⟨g, cap, cur, hv, _⟩
  · injection hv with h1 h2 h3
    subst h1; subst h2; subst h3
    refine (compact_none w).mono ?_
    rintro e w' ⟨rfl, rfl⟩
    rw [sortL_len] at hl
    rw [List.eq_nil_of_length_eq_zero hl]
    exact ⟨none, 0, 0, rfl, At.nil _, Below.refl _ _⟩
  · injection hv with h1 h2 h3
    subst h1
    refine (Cpt.compact_some g n c base (Srt.sortL xs) w h hn).mono ?_
    rintro e w' ⟨n', rfl, ha, hb⟩
    rw [← hl, Cpt.cp_sorted] at ha
    exact ⟨_, _, _, rfl, ha, hb⟩

set_option maxRecDepth 100000 in
set_option maxHeartbeats 1000000 in
theorem of_any (A : Option Addr) (n c : Nat) (xs : List Tp) (w : World) (h : At w A n c xs) (hn : n ≤ 1000000000) :
    Calls Try.prog 15 #[.slice A n c] w fun e w' => ∃ A' n' c', e = .returned (.slice A' n' c') ∧ At w' A' n' c' (ofL xs) ∧ Below w.heap.size w w' := by
  have hcl := Of.clone_any A n c xs w h hn
  have HC := Lib.hid hcl
  clear hcl h
  go_enter Try.func15, Try.ntmps15
  go_wp2_with fail
  refine HC.out.mono ?_
  rintro e w1 ⟨A1, c1, rfl, hown, hb1⟩
  have hs := Lib.hid (Srt.sort_any A1 n c1 w.heap.size xs w1 hown hn)
  clear hown HC
  go_wp2_with fail
  refine hs.out.mono ?_
  rintro e w2 ⟨rfl, hown2, hb2⟩
  have hc := Lib.hid (compact_any A1 n c1 w.heap.size xs w2 hown2 hn)
  clear hown2 hs
  go_wp2_with fail
  refine hc.out.mono ?_
  rintro e w3 ⟨A3, n3, c3, rfl, ha, hb3⟩
  have HA := Lib.hid ha
  clear ha hc
  go_wp2
  go_ret
  exact ⟨A3, n3, c3, rfl, HA.out, (hb1.trans hb2).trans hb3⟩
end RowsOf
end Go.Proofs.Ytdckfddlcmkdlaa
