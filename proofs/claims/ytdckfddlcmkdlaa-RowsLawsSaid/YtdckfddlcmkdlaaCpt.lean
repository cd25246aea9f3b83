/-
  slices.Compact at tuples, over a slice of the call's own: runs of one tuple become one.
-/
import Derived.Test.YtdckfddlcmkdlaaOwn
import Derived.Test.YtdckfddlcmkdlaaEq
import Derived.Test.YtdckfddlcmkdlaaSrt
namespace Go.Proofs.Ytdckfddlcmkdlaa
open Go.RowKit
namespace Cpt
open Cmp TO Rd Lw

/-! ### The plain part -/
/-- What is kept of the first m: each that is not the one ahead of it. -/
def cp (xs : List Tp) : Nat → List Tp
  | 0 => []
  | m + 1 => if m = 0 ∨ xs[m]! ≠ xs[m - 1]! then cp xs m ++ [xs[m]!] else cp xs m
theorem cp_len (xs : List Tp) : ∀ m, (cp xs m).length ≤ m
  | 0 => Nat.le_refl _
  | m + 1 => by
    have := cp_len xs m
    unfold cp
    split
    · simp; omega
    · omega
theorem cp_same {xs : List Tp} {m : Nat} (h1 : 1 ≤ m) (h : xs[m]! = xs[m - 1]!) : cp xs (m + 1) = cp xs m := by
  rw [cp, if_neg]
  rintro (h2 | h2)
  · omega
  · exact h2 h
theorem cp_other {xs : List Tp} {m : Nat} (h : xs[m]! ≠ xs[m - 1]!) : cp xs (m + 1) = cp xs m ++ [xs[m]!] := by
  rw [cp, if_pos (.inr h)]
theorem cp_one (xs : List Tp) (h : 0 < xs.length) : cp xs 1 = xs.take 1 := by
  rw [cp, if_pos (.inl rfl), cp, List.nil_append, getElem!_pos xs 0 h]
  cases xs with
  | nil => simp at h
  | cons x xs => rfl
theorem take_snoc {xs : List Tp} {m : Nat} (h : m < xs.length) : xs.take (m + 1) = xs.take m ++ [xs[m]!] := by
  rw [List.take_succ_eq_append_getElem h, getElem!_pos xs m h]

/-- Of a list that never falls what is kept is its set. -/
theorem cp_set {xs : List Tp} (hs : ∀ i j, i < j → j < xs.length → ltB xs[j]! xs[i]! = false) : ∀ m, m ≤ xs.length → Rises (cp xs m) ∧ (∀ x, x ∈ cp xs m ↔ ∃ i, i < m ∧ xs[i]! = x) ∧ (∀ x, x ∈ cp xs m → 0 < m → x = xs[m - 1]! ∨ ltB x xs[m - 1]! = true)
  | 0, _ => ⟨List.Pairwise.nil, fun x => by simp [cp], fun x h => by simp [cp] at h⟩
  | m + 1, hm => by
    obtain ⟨h1, h2, h3⟩ := cp_set hs m (by omega)
    by_cases hc : m = 0 ∨ xs[m]! ≠ xs[m - 1]!
    · rw [cp, if_pos hc]
      have hlt : ∀ x ∈ cp xs m, ltB x xs[m]! = true := by
        intro x hx
        rcases hc with h0 | hne
        · subst h0
          simp [cp] at hx
        · have hm0 : 0 < m := by
            rcases Nat.eq_zero_or_pos m with e | e
            · subst e; simp [cp] at hx
            · exact e
          have h4 : ltB xs[m - 1]! xs[m]! = true := by
            cases h5 : ltB xs[m - 1]! xs[m]! with
            | true => rfl
            | false => exact absurd (lt_total (hs (m - 1) m (by omega) (by omega)) h5) hne
          rcases h3 x hx hm0 with e | e
          · rw [e]; exact h4
          · exact lt_trans e h4
      refine ⟨List.pairwise_append.2 ⟨h1, by simp, fun x hx y hy => ?_⟩, fun x => ?_, fun x hx _ => ?_⟩
      · rw [List.mem_singleton] at hy
        rw [hy]
        exact hlt x hx
      · rw [List.mem_append, h2]
        constructor
        · rintro (⟨i, hi, e⟩ | h)
          · exact ⟨i, by omega, e⟩
          · rw [List.mem_singleton] at h
            exact ⟨m, by omega, h.symm⟩
        · rintro ⟨i, hi, e⟩
          by_cases him : i = m
          · subst him
            exact .inr (by simp [e])
          · exact .inl ⟨i, by omega, e⟩
      · rcases List.mem_append.1 hx with h | h
        · exact .inr (hlt x h)
        · rw [List.mem_singleton] at h
          exact .inl h
    · rw [cp, if_neg hc]
      have hm0 : 0 < m := by
        rcases Nat.eq_zero_or_pos m with e | e
        · exact absurd (.inl e) hc
        · exact e
      have he : xs[m]! = xs[m - 1]! := by
        by_cases e : xs[m]! = xs[m - 1]!
        · exact e
        · exact absurd (.inr e) hc
      refine ⟨h1, fun x => ?_, fun x hx _ => ?_⟩
      · rw [h2]
        constructor
        · rintro ⟨i, hi, e⟩
          exact ⟨i, by omega, e⟩
        · rintro ⟨i, hi, e⟩
          by_cases him : i = m
          · subst him
            exact ⟨i - 1, by omega, by rw [← he]; exact e⟩
          · exact ⟨i, by omega, e⟩
      · rw [Nat.add_sub_cancel, he]
        exact h3 x hx hm0
theorem cp_sorted (xs : List Tp) : cp (Srt.sortL xs) (Srt.sortL xs).length = ofL xs := by
  have hp : (Srt.sortL xs).Perm xs := List.mergeSort_perm _ _
  have hs := List.pairwise_mergeSort (le := fun x y : Tp => !ltB y x) (fun a b c h1 h2 => by
      simp only [Bool.not_eq_true'] at *
      exact swo.ntrans _ _ _ h2 h1) (fun a b => by
      cases h : ltB b a with
      | false => simp
      | true => simp [lt_asymm h]) xs
  have hs' : ∀ i j, i < j → j < (Srt.sortL xs).length → ltB (Srt.sortL xs)[j]! (Srt.sortL xs)[i]! = false := by
    intro i j hij hj
    have := List.pairwise_iff_getElem.1 hs i j (by unfold Srt.sortL at hj; omega) (by unfold Srt.sortL at hj; exact hj) hij
    rw [getElem!_pos _ j hj, getElem!_pos _ i (by omega)]
    unfold Srt.sortL
    simpa using this
  obtain ⟨h1, h2, _⟩ := cp_set hs' _ (Nat.le_refl _)
  refine (ofL_eq h1 fun x => ?_).symm
  rw [h2, ← hp.mem_iff]
  constructor
  · rintro ⟨i, hi, e⟩
    rw [getElem!_pos _ i hi] at e
    rw [← e]
    exact List.getElem_mem hi
  · intro hx
    obtain ⟨i, hi, e⟩ := List.mem_iff_getElem.1 hx
    exact ⟨i, hi, by rw [getElem!_pos _ i hi]; exact e⟩

/-- In the middle of the second loop: the row reads ys; its first kk are what is kept of the first m; behind kk all is as it was. -/
structure Mid (xs ys : List Tp) (kk m : Nat) : Prop where
  len : ys.length = xs.length
  kept : ys.take kk = cp xs m
  lt : kk < m
  le : m ≤ xs.length
  rest : ∀ i, kk ≤ i → ys[i]? = xs[i]?
theorem Mid.start {xs : List Tp} {k : Nat} (h1 : 1 ≤ k) (hk : k < xs.length) (hall : cp xs k = xs.take k) (he : xs[k]! = xs[k - 1]!) : Mid xs xs k (k + 1) :=
  ⟨rfl, by rw [cp_same h1 he, hall], by omega, by omega, fun _ _ => rfl⟩
theorem Mid.skip {xs ys : List Tp} {kk m : Nat} (h : Mid xs ys kk m) (hm : m < xs.length) (he : xs[m]! = xs[m - 1]!) : Mid xs ys kk (m + 1) :=
  ⟨h.len, by rw [cp_same (by have := h.lt; omega) he]; exact h.kept, by have := h.lt; omega, by omega, h.rest⟩
theorem Mid.keep {xs ys : List Tp} {kk m : Nat} (h : Mid xs ys kk m) (hm : m < xs.length) (he : xs[m]! ≠ xs[m - 1]!) : Mid xs (ys.set kk xs[m]!) (kk + 1) (m + 1) := by
  have hlt := h.lt
  have hl := h.len
  refine ⟨by rw [List.length_set, hl], ?_, by omega, by omega, fun i hi => ?_⟩
  · rw [cp_other he, ← h.kept, List.take_succ_eq_append_getElem (by rw [List.length_set]; omega), List.take_set_of_le (by omega)]
    simp
  · rw [List.getElem?_set_ne (by omega)]
    exact h.rest i (by omega)

/-! ### The walk -/
theorem at_get {w : World} {base g n c : Nat} {e : TypeId} {ys : List Tp} (h : w.ownsRow base e 6 (.slice (some ⟨g, 0, none⟩) n c) n (flat ys)) {k : Nat} (hk : k < n) : Cs w g (k * 6) ys[k]! := by
  have ha := At.of_own h
  have hl : k < ys.length := by rw [ha.len]; exact hk
  obtain ⟨b, o, e1, _, hc⟩ := ha.at_ k ys[k] (List.getElem?_eq_getElem hl)
  injection e1 with e1
  injection e1 with e1 e2
  subst e1; subst e2
  rw [getElem!_pos ys k hl]
  simpa using hc

set_option maxRecDepth 100000 in
set_option maxHeartbeats 4000000 in
theorem compact_some (g n c base : Nat) (xs : List Tp) (w : World) (h : w.ownsRow base 41 6 (.slice (some ⟨g, 0, none⟩) n c) n (flat xs)) (hn : n ≤ 1000000000) :
    Calls Try.prog 58 #[.slice (some ⟨g, 0, none⟩) n c] w fun e w' => ∃ n', e = .returned (.slice (some ⟨g, 0, none⟩) n' c) ∧ At w' (some ⟨g, 0, none⟩) n' c (cp xs n) ∧ Below base w w' := by
  have heq := TEq.eql
  have hneq := TEq.neq
  simp only [Tp.val] at heq hneq
  have hlen : xs.length = n := (At.of_own h).len
  by_cases h2 : n < 2
  · have hcp : cp xs n = xs := by
      by_cases h0 : n = 0
      · subst h0
        rw [List.eq_nil_of_length_eq_zero hlen]
        rfl
      · have h1 : n = 1 := by omega
        subst h1
        rw [cp_one xs (by omega), List.take_of_length_le (by omega)]
    have hat := At.of_own h
    rw [← hcp] at hat
    have HA := Lib.hid hat
    clear hat h heq hneq hlen hcp
    go_enter Try.func58, Try.ntmps58
    go_wp2
    go_ret
    exact ⟨n, rfl, HA.out, Below.refl _ _⟩
  · have hcn : n ≤ c := (At.of_own h).cap
    have HO := Lib.hid h
    have HL := Lib.hid hlen
    clear h hlen
    go_enter Try.func58, Try.ntmps58
    go_wp2
    go_loopg [3] n (fun gh s3 wr => ∃ k q : Nat, 1 ≤ k ∧ k ≤ n ∧ n - k ≤ gh ∧ s3 = .int .i64 k ∧ wr = w.drewN q ∧ Hid (cp xs k = xs.take k))
    case atStart => exact ⟨1, 0, by omega, by omega, by omega, rfl, rfl, Lib.hid (cp_one xs (by rw [HL.out]; omega))⟩
    case round =>
      obtain ⟨k, q, hk1, hk, hg, rfl, rfl, hall⟩ := hrel
      by_cases hlt : k < n
      · obtain ⟨a0, a1, a2, a3, a4, a5⟩ := (at_get HO.out hlt).cells
        obtain ⟨b0, b1, b2, b3, b4, b5⟩ := (at_get HO.out (show k - 1 < n by omega)).cells
        generalize hx : xs[k]! = x at *
        generalize hy : xs[k - 1]! = y at *
        have HX := Lib.hid hx
        have HY := Lib.hid hy
        clear hx hy
        have s1 : IntKind.i64.wrap ((k : Int) - 1) = (k : Int) - 1 := IntWalk.i64_in _ (by omega)
        have s2 : 0 ≤ (k : Int) - 1 := by omega
        have s3 : ((k : Int) - 1).toNat = k - 1 := by omega
        have s4 : (k : Int) - 1 < n := by omega
        have s5 : (1 : Int) ≤ k := by omega
        by_cases hxy : x = y
        · have hd : decide (x = y) = true := by simpa using hxy
          have HE := Lib.hid hxy
          clear hxy
          go_wp2_with fail
          go_quiet (fail)
          clear s1 s2 s3 s4 a0 a1 a2 a3 a4 a5 b0 b1 b2 b3 b4 b5
          have hms := Lib.hid (Mid.start hk1 (by rw [HL.out]; exact hlt) hall.out (by rw [HX.out, HY.out]; exact HE.out))
          have hcz : ∀ w, (zeroValue 41).run Try.prog w = .ok (default : Tp).val w := fun w => by kernel_rfl
          have HCZ := Lib.hid hcz
          clear hcz hd HX HY HE hall
          go_wp2
          go_loopg [3, 5] n (fun gh s3 s5 wr => ∃ (kk k2 : Nat) (ys : List Tp), s3 = .int .i64 kk ∧ s5 = .int .i64 k2 ∧ 1 ≤ k2 ∧ k + k2 ≤ n ∧ n - (k + k2) ≤ gh ∧ wr.ownsRow base 41 6 (.slice (some ⟨g, 0, none⟩) n c) n (flat ys) ∧ Below base w wr ∧ Hid (Mid xs ys kk (k + k2)))
          case atStart => exact ⟨k, 1, xs, rfl, rfl, by omega, by omega, by omega, Own.drewN HO.out _, below_drewN (Below.refl _ _) _, hms⟩
          case round =>
            obtain ⟨kk, k2, ys, rfl, rfl, h21, h2n, hg2, hown, hbel, hmid⟩ := hrel
            have hkk := hmid.out.lt
            have HW := Lib.hid hown
            clear hown
            by_cases hlt2 : k + k2 < n
            · have hrest := hmid.out.rest
              have hyl : ys.length = n := hmid.out.len.trans HL.out
              have eu : ys[k + k2]! = xs[k + k2]! := by
                have := hrest (k + k2) (by omega)
                rw [List.getElem!_eq_getElem?_getD, List.getElem!_eq_getElem?_getD, this]
              have ev : ys[k + k2 - 1]! = xs[k + k2 - 1]! := by
                have := hrest (k + k2 - 1) (by omega)
                rw [List.getElem!_eq_getElem?_getD, List.getElem!_eq_getElem?_getD, this]
              have cu := at_get HW.out hlt2
              have cv := at_get HW.out (show k + k2 - 1 < n by omega)
              rw [eu, show (k + k2) * 6 = k * 6 + k2 * 6 by omega] at cu
              rw [ev, show (k + k2 - 1) * 6 = k * 6 + (k2 - 1) * 6 by omega] at cv
              obtain ⟨a0, a1, a2, a3, a4, a5⟩ := cu.cells
              obtain ⟨b0, b1, b2, b3, b4, b5⟩ := cv.cells
              clear cu cv eu ev hrest hyl
              generalize hu : xs[k + k2]! = u at *
              generalize hv : xs[k + k2 - 1]! = v at *
              have HU := Lib.hid hu
              have HV := Lib.hid hv
              clear hu hv
              have s1 : IntKind.i64.wrap ((k2 : Int) - 1) = (k2 : Int) - 1 := IntWalk.i64_in _ (by omega)
              have s2 : 0 ≤ (k2 : Int) - 1 := by omega
              have s3 : ((k2 : Int) - 1).toNat = k2 - 1 := by omega
              have s4 : (k2 : Int) - 1 < (n - k : Nat) := by omega
              have s5 : (1 : Int) ≤ k2 := by omega
              have s6 : (k2 : Int) < (n - k : Nat) := by omega
              by_cases huv : u = v
              · have hd : decide (u = v) = true := by simpa using huv
                have HE := Lib.hid huv
                clear huv
                go_wp2_with fail
                go_quiet (fail)
                clear s1 s2 s3 s4 a0 a1 a2 a3 a4 a5 b0 b1 b2 b3 b4 b5
                go_wp2
                go_roundg (n - (k + (k2 + 1)))
                case measure => omega
                case rel => exact ⟨kk, k2 + 1, ys, rfl, by go_num, by omega, by omega, Nat.le_refl _, Own.drewN HW.out _, below_drewN hbel _, Lib.hid (hmid.out.skip (by rw [HL.out]; exact hlt2) (by rw [HU.out, HV.out]; exact HE.out))⟩
              · have hd : decide (u = v) = false := by simpa using huv
                have HE := Lib.hid huv
                clear huv
                go_wp2_with fail
                go_quiet (fail)
                clear s1 s2 s3 s4 b0 b1 b2 b3 b4 b5
                go_wp2_with (refine Own.wpList_store_own rfl 41 _ _ rfl kk u (Own.drewN HW.out _) (by omega) rfl rfl (by kernel_rfl) ?_; intro w4 hown4 honly4; have HW4 := Lib.hid hown4; have HN4 := Lib.hid honly4; clear hown4 honly4)
                go_roundg (n - (k + (k2 + 1)))
                case measure => omega
                case rel => exact ⟨kk + 1, k2 + 1, ys.set kk u, by go_num, by go_num, by omega, by omega, Nat.le_refl _, HW4.out, HN4.out.below (below_drewN hbel _) (Own.form HW.out).choose_spec.1, Lib.hid (by have := hmid.out.keep (by rw [HL.out]; exact hlt2) (by rw [HU.out, HV.out]; exact HE.out); rw [HU.out] at this; exact this)⟩
            · clear heq hneq
              have hend : k + k2 = n := by omega
              have hcp : ys.take kk = cp xs n := by
                have := hmid.out.kept
                rwa [hend] at this
              have HCP := Lib.hid hcp
              clear hcp hend
              have hck : ¬ c = kk := by omega
              go_wp2_with (refine Own.wpList_clear_own rfl _ 23 41 rfl kk (n - kk) _ HW.out (by omega) (by omega) rfl Try.underlying23 HCZ.out ?_; intro w4 hat4 honly4; have HA4 := Lib.hid hat4; have HN4 := Lib.hid honly4; clear hat4 honly4)
              go_ret
              exact ⟨kk, rfl, by have := HA4.out; rw [HCP.out] at this; exact this, HN4.out.below hbel (Own.form HW.out).choose_spec.1⟩
        · have hd : decide (x = y) = false := by simpa using hxy
          have HE := Lib.hid hxy
          clear hxy
          go_wp2_with fail
          go_quiet (fail)
          clear s1 s2 s3 s4 a0 a1 a2 a3 a4 a5 b0 b1 b2 b3 b4 b5
          go_wp2
          go_roundg (n - (k + 1))
          case measure => omega
          case rel => exact ⟨k + 1, _, by omega, by omega, Nat.le_refl _, by go_num, rfl, Lib.hid (by rw [cp_other (by rw [HX.out, HY.out]; exact HE.out), hall.out, take_snoc (by rw [HL.out]; exact hlt)])⟩
      · clear heq hneq
        go_wp2
        go_ret
        have hkn : k = n := by omega
        subst hkn
        have hat := (At.of_own HO.out)
        refine ⟨k, rfl, ?_, below_drewN (Below.refl _ _) _⟩
        rw [hall.out, List.take_of_length_le (by rw [HL.out]; exact Nat.le_refl _)]
        exact hat.ext (below_drewN (Below.refl _ _) _)
end Cpt
end Go.Proofs.Ytdckfddlcmkdlaa
