/-
  entailref1.Same: are two rows of tuples one?
-/
import Derived.Test.YtdckfddlcmkdlaaRset
namespace Go.Proofs.Ytdckfddlcmkdlaa
open Go.RowKit
namespace Same
open Cmp TO Rd

theorem take_eq {xs ys : List Tp} {k : Nat} (hx : k < xs.length) (hy : k < ys.length) (h : xs.take k = ys.take k) (he : xs[k]! = ys[k]!) : xs.take (k + 1) = ys.take (k + 1) := by
  rw [Cpt.take_snoc hx, Cpt.take_snoc hy, h, he]
theorem ne_of_get {xs ys : List Tp} {k : Nat} (he : xs[k]! ≠ ys[k]!) : xs ≠ ys := fun h => he (by rw [h])

theorem get_at {w : World} {A : Option Addr} {n c : Nat} {xs : List Tp} (h : At w A n c xs) {k : Nat} (hk : k < n) : ∃ b o, A = some ⟨b, o, none⟩ ∧ b < w.heap.size ∧ Cs w b (o + k * 6) xs[k]! := by
  obtain ⟨b, o, x, e, hb, hx, hc⟩ := h.get hk
  have hl := (List.getElem?_eq_some_iff.1 hx).1
  refine ⟨b, o, e, hb, ?_⟩
  rw [getElem!_pos xs k hl]
  rw [List.getElem?_eq_getElem hl] at hx
  rw [Option.some.inj hx]
  exact hc

set_option maxRecDepth 100000 in
set_option maxHeartbeats 2000000 in
theorem same_any (A B : Option Addr) (n c m d : Nat) (xs ys : List Tp) (w : World) (hx : At w A n c xs) (hy : At w B m d ys) (hn : n ≤ 1000000000) :
    Calls Try.prog 17 #[.slice A n c, .slice B m d] w fun e w' => e = .returned (.bool (decide (xs = ys))) ∧ Below w.heap.size w w' := by
  have hneq := TEq.neq
  simp only [Tp.val] at hneq
  have HX := Lib.hid hx
  have HY := Lib.hid hy
  have hlx := hx.len
  have hly := hy.len
  have HLX := Lib.hid hlx
  have HLY := Lib.hid hly
  clear hx hy
  by_cases hnm : n = m
  · clear hlx hly
    subst hnm
    go_enter Try.func17, Try.ntmps17
    go_wp2
    go_loopg [5] n (fun gh s5 wr => ∃ k q : Nat, k ≤ n ∧ n - k ≤ gh ∧ s5 = .int .i64 k ∧ wr = w.drewN q ∧ Hid (xs.take k = ys.take k))
    case atStart => exact ⟨0, 0, by omega, by omega, rfl, rfl, Lib.hid (by simp)⟩
    case round =>
      obtain ⟨k, q, hk, hg, rfl, rfl, HT⟩ := hrel
      by_cases hlt : k < n
      · obtain ⟨bx, ox, rfl, hbx, hcx⟩ := get_at HX.out hlt
        obtain ⟨by', oy, rfl, hby, hcy⟩ := get_at HY.out hlt
        obtain ⟨a0, a1, a2, a3, a4, a5⟩ := hcx.cells
        obtain ⟨b0, b1, b2, b3, b4, b5⟩ := hcy.cells
        clear hcx hcy
        generalize hx : xs[k]! = x at *
        generalize hy : ys[k]! = y at *
        have HXE := Lib.hid hx
        have HYE := Lib.hid hy
        clear hx hy
        by_cases hxy : x = y
        · have hd : decide (x = y) = true := by simpa using hxy
          have HE := Lib.hid hxy
          clear hxy
          go_wp2_with fail
          go_quiet (fail)
          clear a0 a1 a2 a3 a4 a5 b0 b1 b2 b3 b4 b5
          go_wp2
          go_roundg (n - (k + 1))
          case measure => omega
          case rel => exact ⟨k + 1, _, by omega, Nat.le_refl _, by go_num, rfl, Lib.hid (take_eq (by rw [HLX.out]; exact hlt) (by rw [HLY.out]; exact hlt) HT.out (by rw [HXE.out, HYE.out]; exact HE.out))⟩
        · have hd : decide (x = y) = false := by simpa using hxy
          have HE := Lib.hid hxy
          clear hxy
          go_wp2_with fail
          go_quiet (fail)
          clear a0 a1 a2 a3 a4 a5 b0 b1 b2 b3 b4 b5
          go_wp2
          go_ret
          refine ⟨?_, below_drewN (below_drewN (Below.refl _ _) _) _⟩
          have : decide (xs = ys) = false := by
            simpa using ne_of_get (k := k) (by rw [HXE.out, HYE.out]; exact HE.out)
          rw [this]
          rfl
      · clear hneq
        go_wp2
        go_ret
        refine ⟨?_, below_drewN (Below.refl _ _) _⟩
        have hkn : k = n := by omega
        have h1 := HT.out
        rw [hkn, List.take_of_length_le (by rw [HLX.out]; exact Nat.le_refl _), List.take_of_length_le (by rw [HLY.out]; exact Nat.le_refl _)] at h1
        have : decide (xs = ys) = true := by simpa using h1
        rw [this]
        rfl
  · have h1 : ((n : Int) != (m : Int)) = true := by simp; omega
    have hne : decide (xs = ys) = false := by
      simp
      intro e
      apply hnm
      rw [← hlx, ← hly, e]
    have HN := Lib.hid hne
    clear hlx hly hne hneq hnm
    go_enter Try.func17, Try.ntmps17
    go_wp2
    go_ret
    rw [HN.out]
    exact ⟨rfl, Below.refl _ _⟩
end Same
end Go.Proofs.Ytdckfddlcmkdlaa
