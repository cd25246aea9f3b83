/-
  Entries as they should be: sorted, where no two are alike. No program in sight.
-/
import Derived.Test.YthnejfmbglbpgaaDoorPgl
namespace Go.Proofs.YthnejfmbglbpgaaDoor.Ab
open Go.RowKit Go.Sort Go.Shelf
theorem grd_t {β : Type} {c : Bool} {k : Option β} (h : c = true) : grd c k = k := by
  unfold grd
  rw [if_pos h]
theorem cmpE_some (x y : GEntry) : mask_compare 100 x y = some (cfE x y) := by
  unfold mask_compare
  rw [flag_some, Option.bind_some, flag_some, Option.bind_some, cmpI_some, Option.bind_some, cmpI_some, Option.bind_some, show strings_Compare 100 x.name y.name = some (cmS x.name y.name) from rfl, Option.bind_some, or3]
  rfl
theorem srtE_perm (xs : List GEntry) : (srtE xs).Perm xs := List.mergeSort_perm xs _
theorem srtE_len (xs : List GEntry) : (srtE xs).length = xs.length := (srtE_perm xs).length_eq
theorem srtE_apart {xs : List GEntry} (h : xs.Pairwise fun x y => cfE x y ≠ 0) : (srtE xs).Pairwise fun x y => cfE x y ≠ 0 :=
  ((srtE_perm xs).pairwise_iff fun {x y} h e => h (by have := pre_E.neg x y; omega)).2 h
theorem srtE_sorted (xs : List GEntry) : (srtE xs).Pairwise fun a b => ltOf cfE b a = false := by
  have tr : ∀ a b c : GEntry, decide (cfE a b ≤ 0) = true → decide (cfE b c ≤ 0) = true → decide (cfE a c ≤ 0) = true := fun a b c h1 h2 => decide_eq_true (pre_E.trans a b c (of_decide_eq_true h1) (of_decide_eq_true h2))
  have to : ∀ a b : GEntry, (decide (cfE a b ≤ 0) || decide (cfE b a ≤ 0)) = true := fun a b => by
    have := pre_E.neg a b
    simp only [Bool.or_eq_true, decide_eq_true_eq]
    omega
  refine (List.pairwise_mergeSort tr to xs).imp fun {a b} h => ?_
  have h := of_decide_eq_true h
  have n := pre_E.neg a b
  exact decide_eq_false (by omega)
theorem srtE_idem {xs : List GEntry} (h : xs.Pairwise fun x y => cfE x y ≠ 0) : srtE (srtE xs) = srtE xs := (srtE_one (srtE_apart h) (List.Perm.refl _) (srtE_sorted xs)).symm
theorem sort_some {n : Nat} {xs : List GEntry} (h : xs.Pairwise fun x y => cfE x y ≠ 0) (h0 : 0 < xs.length) (h1 : xs.length ≤ 4294967296) : sort_Entry n xs = some (srtE xs) := by
  unfold sort_Entry apartE
  rw [decide_eq_true h, decide_eq_true h0, decide_eq_true h1]
  rfl
theorem l3_some {s : List GEntry} (hp : s.Pairwise fun x y => cfE x y ≠ 0) (hg : ∀ x ∈ s, mask_good 100 x = some true) (hl : s.length < 1000) : ∀ (c j : Nat), j ≤ s.length → s.length - j < c → mask_Acl_L3 100 s c (j : Int) = some (.inl ())
  | 0, _, _, h => by omega
  | c + 1, j, hj, hc => by
    rw [mask_Acl_L3]
    by_cases h : j < s.length
    · have ih := l3_some hp hg hl c (j + 1) (by omega) (by omega)
      rw [dlt h, if_pos rfl, idxS h, Option.bind_some, hg _ (List.getElem_mem h), Option.bind_some, if_pos rfl, wr1 (by omega), ih]
      cases j with
      | zero => rfl
      | succ k =>
        have hne := List.pairwise_iff_getElem.1 hp k (k + 1) (by omega) h (by omega)
        rw [show decide (0 < ((k + 1 : Nat) : Int)) = true from decide_eq_true (by omega), if_pos rfl, show (((k + 1 : Nat) : Int) - 1) = (k : Int) by omega, wr (by omega) (by omega), idxS (by omega), Option.bind_some, cmpE_some, Option.bind_some, if_neg (by simpa using hne)]
    · rw [dnlt (by omega), if_neg (by decide)]
theorem acl_some {a : List GEntry} (hp : a.Pairwise fun x y => cfE x y ≠ 0) (h0 : 0 < a.length) (hl : a.length ≤ 90) (hg : ∀ x ∈ a, mask_good 100 x = some true) (hd : ∀ x ∈ a, x.default = false)
    (h1 : (findE (srtE a) false 1 { data := #[] }).2 = true) (h3 : (findE (srtE a) false 3 { data := #[] }).2 = true) (h5 : (findE (srtE a) false 5 { data := #[] }).2 = true) (h6 : (findE (srtE a) false 6 { data := #[] }).2 = true) : mask_Acl 100 a = some (srtE a, true) := by
  have hs := srtE_len a
  have e3 : mask_Acl_L3 100 (srtE a) 100 0 = some (.inl ()) := l3_some (srtE_apart hp) (fun x hx => hg x ((srtE_perm a).mem_iff.1 hx)) (by omega) 100 0 (by omega) (by omega)
  have hlast : idx (srtE a) (IntKind.i64.wrap (((srtE a).length : Int) - 1)) = some ((srtE a)[(srtE a).length - 1]'(by omega)) := by
    rw [wr (by omega) (by omega), show (((srtE a).length : Int) - 1) = (((srtE a).length - 1 : Nat) : Int) by omega, idxS (by omega)]
  have hdl : ((srtE a)[(srtE a).length - 1]'(by omega)).default = false := hd _ ((srtE_perm a).mem_iff.1 (List.getElem_mem _))
  have em : mask_Acl_C2_mask_masked 100 (srtE a) = some (srtE a) := by
    unfold mask_Acl_C2_mask_masked
    rw [find_some (by omega) (by omega), Option.bind_some, h5, if_pos rfl]
  unfold mask_Acl
  rw [decide_eq_false (by omega), if_neg (by decide), grd_t (decide_eq_true (by omega)), sort_some hp h0 (by omega), Option.bind_some, e3, Option.bind_some]
  show (((if (decide (0 < ((srtE a).length : Int))) then (idx (srtE a) (IntKind.i64.wrap (((srtE a).length : Int) - 1))).bind fun x4 => some x4.default else some false) : Option Bool).bind _) = _
  rw [decide_eq_true (by omega), if_pos rfl, hlast, Option.bind_some, hdl, Option.bind_some, whole_some (by omega) (by omega) (by omega) h1 h3 h6, Option.bind_some, if_pos rfl, if_neg (by decide), Option.bind_some]
  show ((mask_Acl_C2_mask_masked 100 (srtE a)).bind _) = _
  rw [em, Option.bind_some]
  show ((sort_Entry 100 (srtE a)).bind _) = _
  rw [sort_some (srtE_apart hp) (by omega) (by omega), Option.bind_some, srtE_idem hp, decide_eq_false (by omega), if_neg (by decide)]
end Go.Proofs.YthnejfmbglbpgaaDoor.Ab
