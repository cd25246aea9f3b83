/-
  The walks of slices.Clone, slices.SortFunc and slices.Compact at tuples, and of rows.Of: the set of a list of tuples.
-/
import Derived.Test.YtdckfddlcmkdlaaRd
import Derived.Shelf.SlSortCmp.NoneTotal
import Derived.Deep.LoopGhost
import Derived.Lib.Walk
import Derived.Lib.SliceRun
import Derived.Maps.AppendAt
namespace Go.Proofs.Ytdckfddlcmkdlaa
open Go.RowKit Go.Shelf
namespace Of
open Cmp TO Rd

theorem infoTp : (Try.prog.info? 41).map (fun i => (i.zero, i.size, i.bytes)) = some (some (default : Tp).val, 6, 96) := by kernel_rfl

theorem news_at {w : World} {a : Addr} {n c : Nat} {xs : List Tp} (h : At w (some a) n c xs) : ∀ j u, (flat xs)[j]? = some u → w.cell? (a.add j) = some u := by
  intro t u hu
  obtain ⟨i, x, j, hx, hv, rfl⟩ := flat_cases xs t u hu
  obtain ⟨b, o, e, _, hc⟩ := h.at_ i x hx
  injection e with e
  subst e
  have hadd : (⟨b, o, none⟩ : Addr).add (i * 6 + j) = ⟨b, o + i * 6 + j, none⟩ := by unfold Addr.add; split <;> simp_all <;> omega
  rw [hadd]
  exact hc j u hv

set_option maxRecDepth 100000 in
set_option maxHeartbeats 1000000 in
theorem clone_any (A : Option Addr) (n c : Nat) (xs : List Tp) (w : World) (h : At w A n c xs) (hn : n ≤ 1000000000) :
    Calls Try.prog 55 #[.slice A n c] w fun e w' => ∃ A' c', e = .returned (.slice A' n c') ∧ w'.ownsRow w.heap.size 41 6 (.slice A' n c') n (flat xs) ∧ Below w.heap.size w w' := by
  have q := fun (w : World) (a : Option Addr) (n c n' c' : Nat) => Lib.run_eql_slice_nil (P := Try.prog) w 23 41 a n c n' c' Try.underlying23
  cases A with
  | none =>
    have hl := h.len
    have hx : xs = [] := by
      cases xs with
      | nil => rfl
      | cons x xs =>
        obtain ⟨b, o, e, _⟩ := h.at_ 0 x rfl
        cases e
    subst hx
    simp only [List.length_nil] at hl
    subst hl
    clear h
    go_enter Try.func55, Try.ntmps55
    go_wp2
    go_ret
    exact ⟨none, 0, rfl, ⟨rfl, .inl ⟨rfl, rfl⟩⟩, Below.refl _ _⟩
  | some a =>
    have hnews := news_at h
    have hlen := flat_len xs
    rw [h.len] at hlen
    obtain ⟨i0, hi, hz0, hz1, hz2⟩ := info_parts infoTp
    have HN := Lib.hid hnews
    have HL := Lib.hid hlen
    clear hnews hlen h
    go_enter Try.func55, Try.ntmps55
    go_wp2_with (at_builtin; refine wpList_append_own _ rfl _ _ 23 rfl w.heap.size 41 i0 _ 6 96 Try.underlying23 hi hz0 hz1 hz2 rfl (by decide) _ _ _ rfl (World.ownsRow_made w #[] 0 (Nat.le_refl _) (Nat.zero_le _) (by simp)) a n c (flat xs) rfl ?qc1 ?qc2 ?qc3 ?qc4 ?qc5 ?qc6 ?_)
    case qc1 => exact HL.out
    case qc2 =>
      intro j u hj
      exact Lib.cell?_alloc_some _ (HN.out j u hj)
    case qc3 => exact flat_one xs
    case qc4 => simp only [maxLen]; omega
    case qc5 => omega
    case qc6 => simp
    intro v' w1 hown hgrow hnil
    go_wp2
    go_ret
    have hb : Below w.heap.size w w1 := ((Below.refl _ w).alloc (Nat.le_refl _) _).grown hgrow (by simp) (by intro k hk; simp [Value.ownBlock] at hk; omega)
    have hown' : w1.ownsRow w.heap.size 41 6 v' n (flat xs) := by simpa using hown
    have hex : ∃ A' c', v' = .slice A' n c' := by
      rcases hown'.2 with ⟨hv, h0⟩ | ⟨g, cap, cur, hv, _⟩
      · exact ⟨none, 0, by rw [hv, h0]⟩
      · exact ⟨_, _, hv⟩
    obtain ⟨A', c', hv⟩ := hex
    rw [hv] at hown'
    exact ⟨A', c', congrArg Ending.returned hv, hown', hb⟩
end Of
end Go.Proofs.Ytdckfddlcmkdlaa
