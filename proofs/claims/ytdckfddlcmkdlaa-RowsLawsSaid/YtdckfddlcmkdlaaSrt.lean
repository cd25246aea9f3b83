/-
  slices.SortFunc at tuples by their order, over a slice of the call's own: it holds the sorted list.
-/
import Derived.Test.YtdckfddlcmkdlaaOf
import Derived.Lib.OwnBridge
namespace Go.Proofs.Ytdckfddlcmkdlaa
open Go.RowKit Go.Shelf Go.Sort
namespace Srt
open Cmp TO Rd

theorem flatK_eq (xs : List Tp) : flatK Tp.enc 6 xs.toArray = (flat xs).toArray := by
  apply Array.ext
  · simp [flat_len]
  · intro t h1 h2
    have hl : t < xs.length * 6 := by simpa using h1
    have hi : t / 6 < xs.length := by omega
    have h3 := flat_at xs (t / 6) xs[t / 6] (List.getElem?_eq_getElem hi) (t % 6) (xs[t / 6].enc[t % 6]'(by rw [Tp.enc_len]; omega)) (List.getElem?_eq_getElem _)
    rw [show t / 6 * 6 + t % 6 = t by omega, List.getElem?_eq_getElem (by rw [flat_len]; omega)] at h3
    have h4 := Option.some.inj h3
    simp only [List.getElem_toArray]
    rw [h4]
    simp only [flatK, Array.getElem_map, Array.getElem_range]
    have e1 : xs.toArray[t / 6]! = xs[t / 6] := by simp [hi]
    rw [e1]
    exact getElem!_pos _ _ (by rw [Tp.enc_len]; omega)

theorem holds_of_own {w : World} {base g n cap : Nat} {e : TypeId} {xs : List Tp} (h : w.ownsRow base e 6 (.slice (some ⟨g, 0, none⟩) n cap) n (flat xs)) : HoldsK Tp.enc 6 w g 0 xs.toArray ∧ g < w.heap.size ∧ base ≤ g := by
  rcases h.2 with ⟨e0, _⟩ | ⟨g', cap', cur, e0, hb, hg, hn, hm, hs, ht⟩
  · cases e0
  · injection e0 with e1 _ e3
    injection e1 with e1
    injection e1 with e1
    subst e1; subst e3
    refine ⟨?_, (Array.getElem?_eq_some_iff.1 hg).1, hb⟩
    unfold HoldsK
    rw [flatK_eq]
    intro j hj
    have hj' : j < (flat xs).length := by simpa using hj
    refine ⟨?_, by simp [World.frozen?, hg]⟩
    rw [Nat.zero_add, cell_of_row w g j cur e (0, 0) hg]
    have hl := h.1
    have e1 : (cur.toList.take (n * 6))[j]? = (flat xs)[j]? := by rw [ht]
    rw [List.getElem?_take, if_pos (by omega), Array.getElem?_toList] at e1
    rw [e1, List.getElem?_eq_getElem hj']
    simp [hj']

theorem own_put {w : World} {base g n cap q : Nat} {e : TypeId} {os : Array Obj} {xs ys : List Tp} (h : w.ownsRow base e 6 (.slice (some ⟨g, 0, none⟩) n cap) n (flat xs)) (hy : ys.length = n) :
    (sortWorldK Tp.enc 6 w g 0 q ys.toArray os).ownsRow base e 6 (.slice (some ⟨g, 0, none⟩) n cap) n (flat ys) := by
  rcases h.2 with ⟨e0, _⟩ | ⟨g', cap', cur, e0, hb, hg, hn, hm, hs, ht⟩
  · cases e0
  · injection e0 with e1 _ e3
    injection e1 with e1
    injection e1 with e1
    subst e1; subst e3
    have hlt : g < w.heap.size := (Array.getElem?_eq_some_iff.1 hg).1
    refine ⟨by rw [flat_len, hy], .inr ⟨g, cap, putCells id 0 (flat ys).toArray cur, rfl, hb, ?_, hn, hm, by simpa [putCells] using hs, ?_⟩⟩
    · unfold sortWorldK putRowK
      rw [flatK_eq, heap_grow_old _ _ (by simpa [putRow, mapBlock, Sort.ahead] using hlt)]
      simp [putRow, mapBlock, Sort.ahead, Array.getElem?_modify, hg, onCells]
    · have hl : (flat ys).length = n * 6 := by rw [flat_len, hy]
      apply List.ext_getElem?
      intro j
      rw [List.getElem?_take, Array.getElem?_toList]
      by_cases hj : j < n * 6
      · have hjc : j < cur.size := by omega
        simp only [if_pos hj, putCells, Array.getElem?_mapIdx, Array.getElem?_eq_getElem hjc, Option.map_some]
        rw [if_pos (by simp; omega), List.getElem?_eq_getElem (by omega)]
        simp [getElem!_pos, show j < (flat ys).length by omega]
      · rw [if_neg hj, List.getElem?_eq_none (by omega)]

theorem below_sort {w : World} {B g q : Nat} {os : Array Obj} {ys : List Tp} (hB : B ≤ g) (hg : g < w.heap.size) : Below B w (sortWorldK Tp.enc 6 w g 0 q ys.toArray os) := by
  refine ⟨rfl, rfl, rfl, ?_, fun k hk => ?_⟩
  · simp [sortWorldK, putRowK, putRow, mapBlock, Sort.ahead, grow]
  · unfold sortWorldK putRowK
    rw [heap_grow_old _ _ (by simp [putRow, mapBlock, Sort.ahead]; omega)]
    have : g ≠ k := by omega
    simp [putRow, mapBlock, Sort.ahead, Array.getElem?_modify, this]

theorem ltOf_eq : ltOf cf = ltB := rfl
/-- The sorted list. -/
def sortL (xs : List Tp) : List Tp := xs.mergeSort fun x y => !ltB y x

theorem cmpLays (blk off size : Nat) (w : World) : CmpLays Try.prog 57 #[] Tp.enc 6 cf blk off size w :=
  fun _ _ _ _ x y => by
    refine (compare_any x y _).mono ?_
    rintro e w' ⟨rfl, rfl⟩
    refine ⟨rfl, 1, #[.cells x.enc.toArray 41, .cells y.enc.toArray 41, .cells ((parts x y).map (Value.int .i64)).toArray 3], ?_⟩
    rw [alloc_eq_grow, alloc_eq_grow, alloc_eq_grow, grow_grow, grow_grow]
    rfl

set_option maxRecDepth 100000 in
theorem sort_any (A : Option Addr) (n c base : Nat) (xs : List Tp) (w : World) (h : w.ownsRow base 41 6 (.slice A n c) n (flat xs)) (hn : n ≤ 1000000000) :
    Calls Try.prog 56 #[.slice A n c, .func (.func 57) #[] #[]] w fun e w' => e = .returned (.tuple #[]) ∧ w'.ownsRow base 41 6 (.slice A n c) n (flat (sortL xs)) ∧ Below base w w' := by
  have hl : xs.length = n := by
    have := h.1
    rw [flat_len] at this
    omega
  have hex : (A = none ∧ n = 0) ∨ ∃ g, A = some ⟨g, 0, none⟩ := by
    rcases h.2 with ⟨hv, h0⟩ | ⟨g, cap, cur, hv, _⟩
    · injection hv with h1 h2 h3
      exact .inl ⟨h1, h2⟩
    · injection hv with h1 h2 h3
      exact .inr ⟨g, h1⟩
  rcases hex with ⟨rfl, rfl⟩ | ⟨g, rfl⟩
  · have hx : xs = [] := List.eq_nil_of_length_eq_zero hl
    subst hx
    have hcon := AnyF.slices_SortFunc_none Try.sortFuncTuple none c (.func (.func 57) #[] #[]) w
    change Calls Try.prog 56 _ _ _ at hcon
    refine hcon.mono ?_
    rintro e w' ⟨rfl, rfl⟩
    exact ⟨rfl, by simpa [sortL] using h, Below.refl _ _⟩
  · obtain ⟨hH, hg, hb⟩ := holds_of_own h
    have hcon := AnyQ.slices_SortFunc_total Try.sortFuncTuple 6 (fun w => by kernel_rfl) (fun w => by kernel_rfl) Tp.enc Tp.enc_len Tp.enc_one cf swo 57 #[] g 0 c xs.toArray w (enters_of Try.func57 (by kernel_rfl) rfl)
      (cmpLays g 0 _ w) hH hg (by simp; omega) (fun x y h1 h2 => lt_total h1 h2)
    rw [show xs.toArray.size = n by simpa using hl] at hcon
    change Calls Try.prog 56 _ _ _ at hcon
    refine hcon.mono ?_
    rintro e w' ⟨rfl, q, os, rfl⟩
    exact ⟨rfl, own_put h (by simp [hl]), below_sort hb hg⟩
end Srt
end Go.Proofs.Ytdckfddlcmkdlaa
