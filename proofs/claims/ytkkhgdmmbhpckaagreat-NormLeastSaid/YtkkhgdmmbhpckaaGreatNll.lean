/-
  NormLeast: the law. No program in sight.
-/
import Derived.Test.YtkkhgdmmbhpckaaGreatRd
namespace Go.Proofs.YtkkhgdmmbhpckaaGreat.Ab
open Go.RowKit
attribute [local instance] baLawful
/-! ### pairs that rise -/
section
variable {P M : List GPair} {rk : ByteArray → Nat} (hr : ∀ p ∈ P, rk p.a < rk p.b)
include hr in
theorem dn_le {a b : ByteArray} (h : Dn P a b) : rk a ≤ rk b ∧ (a = b ∨ rk a < rk b) := by
  induction h with
  | refl => exact ⟨Nat.le_refl _, .inl rfl⟩
  | step _ hc ih =>
    have := hr _ (mem_sB.1 hc)
    simp only at this
    exact ⟨by omega, .inr (by omega)⟩
include hr in
theorem no_ring : ¬ RingP P := fun ⟨x, hx, hd⟩ => by
  have h1 := (dn_le hr hd).1
  have h2 := hr x hx
  omega
include hr in
theorem part_dn {s : ByteArray} {B : Nat} (hE : ∀ u v, (⟨u, v⟩ : GPair) ∈ P → rk s ≤ rk u → rk v ≤ B → Dn M u v) {t : ByteArray} (h : Dn P s t) : rk t ≤ B → Dn M s t := by
  induction h with
  | refl => exact fun _ => .refl
  | step h hc ih =>
    intro hB
    have he := mem_sB.1 hc
    have h1 := hr _ he
    have h2 := (dn_le hr h).1
    simp only at h1
    exact (ih (by omega)).trans (hE _ _ he h2 hB)
include hr in
theorem all_said (hM : ∀ x, x ∈ M ↔ x ∈ P ∧ ¬ Said P x) : ∀ (D : Nat) (p : GPair), p ∈ P → rk p.b - rk p.a ≤ D → Dn M p.a p.b
  | 0, p, hp, h => by
    have := hr p hp
    omega
  | D + 1, p, hp, h => by
    by_cases hs : Said P p
    · obtain ⟨s, h1, h2, h3⟩ := hs
      have a1 := hr _ h1
      simp only at a1
      obtain ⟨b1, b2⟩ := dn_le hr h3
      have b3 : rk s < rk p.b := b2.resolve_left h2
      refine (all_said hM D ⟨p.a, s⟩ h1 (by simp only; omega)).trans ?_
      refine part_dn hr (B := rk p.b) (fun u v he hu hv => ?_) h3 (Nat.le_refl _)
      have he2 := hr _ he
      simp only at he2
      have hu2 : rk s ≤ rk u := hu
      exact all_said hM D ⟨u, v⟩ he (by simp only; omega)
    · exact Rch.refl.step (mem_sB.2 ((hM p).2 ⟨hp, hs⟩))
end
theorem needed {P M : List GPair} (hM : ∀ x, x ∈ M ↔ x ∈ P ∧ ¬ Said P x) (hring : ¬ RingP P) (hnd : M.Nodup) {i : Nat} (hi : i < M.length) : ¬ Dn (M.eraseIdx i) M[i].a M[i].b := by
  intro h
  have hx : M[i] ∈ M := List.getElem_mem hi
  have hsub : ∀ y ∈ M.eraseIdx i, y ∈ P := fun y hy => ((hM y).1 (List.mem_of_mem_eraseIdx hy)).1
  rcases h.first with e | ⟨s, h1, h2⟩
  · exact hring ⟨M[i], ((hM _).1 hx).1, by rw [← e]; exact .refl⟩
  · have h1 := mem_sB.1 h1
    refine ((hM _).1 hx).2 ⟨s, hsub _ h1, fun e => ?_, h2.mono fun x y hy => Rch.refl.step (mem_sB.2 (hsub _ (mem_sB.1 hy)))⟩
    subst e
    obtain ⟨j, hj, hne, he⟩ := List.mem_eraseIdx_iff_getElem.1 h1
    exact hne ((List.getElem_inj hnd).1 he)
/-! ### letters -/
def ltr (k : Nat) : ByteArray := { data := #[UInt8.ofNat (97 + k)] }
def abc : ByteArray := { data := #[97, 98, 99, 100, 101, 102, 103, 104] }
theorem letr : ∀ k : Nat, k < 8 → bslc abc (k : Int) (IntKind.i64.wrap ((k : Int) + 1)) = some (ltr k)
  | 0, _ => by kernel_rfl
  | 1, _ => by kernel_rfl
  | 2, _ => by kernel_rfl
  | 3, _ => by kernel_rfl
  | 4, _ => by kernel_rfl
  | 5, _ => by kernel_rfl
  | 6, _ => by kernel_rfl
  | 7, _ => by kernel_rfl
  | k + 8, h => absurd h (by omega)
def rkL (s : ByteArray) : Nat := (s.data.toList.headD 0).toNat
theorem rk_ltr : ∀ k : Nat, k < 8 → rkL (ltr k) = 97 + k := by
  have : ∀ k : Fin 8, rkL (ltr k.1) = 97 + k.1 := by decide
  exact fun k hk => this ⟨k, hk⟩
def lo (x : Int) : Nat := an x 7
def hi (x : Int) : Nat := an (sh x 3) 7
theorem lo_le (x : Int) : lo x ≤ 7 := Nat.le_trans (an_le _ _) (by decide)
theorem hi_le (x : Int) : hi x ≤ 7 := Nat.le_trans (an_le _ _) (by decide)
def prP (x : Int) : List GPair := if lo x < hi x then [⟨ltr (lo x), ltr (hi x)⟩] else []
def prs (t : List Int) : List GPair := t.flatMap prP
theorem prP_len (x : Int) : (prP x).length ≤ 1 := by unfold prP; split <;> simp
theorem prs_len : ∀ t : List Int, (prs t).length ≤ t.length
  | [] => Nat.le_refl _
  | x :: t => by
    have h1 := prP_len x
    have h2 := prs_len t
    unfold prs at *
    rw [List.flatMap_cons, List.length_append, List.length_cons]
    omega
theorem prs_rises {t : List Int} : ∀ p ∈ prs t, rkL p.a < rkL p.b := by
  intro p hp
  obtain ⟨x, _, h⟩ := List.mem_flatMap.1 hp
  unfold prP at h
  split at h
  · rename_i hlt
    obtain rfl := List.mem_singleton.1 h
    have := lo_le x
    have := hi_le x
    rw [rk_ltr _ (by omega), rk_ltr _ (by omega)]
    omega
  · cases h
theorem nl1 {n : Nat} (t0 : List Int) : ∀ (c i : Nat) (out : List GPair), i ≤ 20 → 20 - i < c → out.length ≤ i →
    law14_NormLeast_L1 n t0 c (out, (i : Int)) = some (out ++ prs ((t0.drop i).take (20 - i)))
  | 0, _, _, _, h, _ => by omega
  | c + 1, i, out, hi20, hc, ho => by
    rw [law14_NormLeast_L1]
    by_cases h : i < t0.length
    · rw [dlt h, if_pos rfl, Option.bind_some]
      by_cases h2 : i < 20
      · obtain ⟨m, hm⟩ : ∃ m, 20 - i = m + 1 := ⟨19 - i, by omega⟩
        rw [show decide ((i : Int) < 20) = true from decide_eq_true (by omega), if_pos rfl, idxS h, Option.bind_some, wr1 (by omega), List.drop_eq_getElem_cons h, hm, List.take_succ_cons]
        have hl := lo_le t0[i]
        have hh := hi_le t0[i]
        have e1 : IntKind.i64.wrap (an t0[i] 7 : Int) = (lo t0[i] : Int) := wrap_an _ _ (by decide)
        have e2 : IntKind.i64.wrap (an (sh t0[i] 3) 7 : Int) = (hi t0[i] : Int) := wrap_an _ _ (by decide)
        have ih := fun o => nl1 (n := n) t0 c (i + 1) o (by omega) (by omega)
        rw [show 20 - (i + 1) = m by omega] at ih
        rw [e1, e2]
        by_cases hp : lo t0[i] < hi t0[i]
        · have hpp : prP t0[i] = [⟨ltr (lo t0[i]), ltr (hi t0[i])⟩] := if_pos hp
          have b1 := letr (lo t0[i]) (by omega)
          have b2 := letr (hi t0[i]) (by omega)
          have happ : app out [(⟨ltr (lo t0[i]), ltr (hi t0[i])⟩ : GPair)] = some (out ++ [⟨ltr (lo t0[i]), ltr (hi t0[i])⟩]) := appS (by simp; omega)
          rw [dlt hp, if_pos rfl]
          refine (congrArg (fun z => Option.bind z _) b1).trans ?_
          rw [Option.bind_some]
          refine (congrArg (fun z => Option.bind z _) b2).trans ?_
          rw [Option.bind_some, happ, Option.bind_some]
          refine (ih _ (by rw [List.length_append, List.length_singleton]; omega)).trans ?_
          unfold prs
          rw [List.flatMap_cons, hpp, List.append_assoc]
        · have hpp : prP t0[i] = [] := if_neg hp
          rw [dnlt (by omega), if_neg (by decide)]
          refine (ih _ (by omega)).trans ?_
          unfold prs
          rw [List.flatMap_cons, hpp, List.nil_append]
      · have : i = 20 := by omega
        subst this
        rw [show decide (((20 : Nat) : Int) < 20) = false from rfl, if_neg (by decide)]
        simp [prs]
    · rw [dnlt (by omega), if_neg (by decide), Option.bind_some, if_neg (by decide), List.drop_eq_nil_of_le (by omega)]
      simp [prs]
theorem normal_some {n : Nat} {l M : List GPair} (h : norm_least n l = some M) : norm_Normal n (⟨[], [], l, [], [], [], [], []⟩ : GRoles) = some ⟨[], [], M, [], [], [], [], []⟩ := by
  unfold norm_Normal
  dsimp only
  have e : norm_Once n [] = some [] := (if_pos (Nat.zero_le _)).trans (by unfold onceT; rw [once_set]; rfl)
  have e2 : norm_pairs n [] = some [] := rfl
  have e3 : norm_grants n [] = some [] := rfl
  rw [e, Option.bind_some, Option.bind_some, h, Option.bind_some, e2, e3]
  rfl
theorem nl3 {n : Nat} (x : GPair) (d : List ByteArray) (hd : x.b ∉ d) : ∀ xs : List ByteArray, (∀ y ∈ xs, y ∈ d) → foldK (law14_NormLeast_L3_f n x d) (law14_NormLeast_L3_e n x d) xs () = some (.inl ())
  | [], _ => rfl
  | y :: xs, h => by
    rw [foldK]
    unfold law14_NormLeast_L3_f
    dsimp only
    have hne : ¬ y = x.b := fun e => hd (e ▸ h y (List.mem_cons_self ..))
    rw [beqS, decide_eq_false hne, if_neg (by decide)]
    exact nl3 x d hd xs fun z hz => h z (List.mem_cons_of_mem _ hz)
theorem nl2 {n : Nat} {P M : List GPair} (hn : 30 < n) (hlen : M.length ≤ 20) (hM : ∀ x, x ∈ M ↔ x ∈ P ∧ ¬ Said P x) (hring : ¬ RingP P) (hnd : M.Nodup) : ∀ (c i : Nat), i ≤ M.length → M.length - i < c → law14_NormLeast_L2 n ⟨[], [], M, [], [], [], [], []⟩ c (i : Int) = some (.inl ())
  | 0, _, _, h => by omega
  | c + 1, i, hi, hc => by
    rw [law14_NormLeast_L2]
    dsimp only
    by_cases h : i < M.length
    · have e0 : slc M 0 (i : Int) = some (M.take i) := by
        have := slcS (xs := M) (a := 0) (b := i) (Nat.zero_le _) (by omega)
        rwa [List.drop_zero] at this
      have e1 : slc M ((i + 1 : Nat) : Int) (M.length : Int) = some (M.drop (i + 1)) := by
        have := slcS (xs := M) (a := i + 1) (b := M.length) (by omega) (Nat.le_refl _)
        rwa [List.take_length] at this
      have e2 : app [] (M.take i) = some (M.take i) := appS (by simp; omega)
      have e3 : app (M.take i) (M.drop (i + 1)) = some (M.eraseIdx i) := by
        rw [appS (by simp; omega), List.eraseIdx_eq_take_drop_succ]
      obtain ⟨r, d1, d2, d3⟩ := down_some (n := n) (p := ⟨[], [], M.eraseIdx i, [], [], [], [], []⟩) (by have := List.length_eraseIdx_le M i; simp only; omega) (by have := List.length_eraseIdx_le M i; simp only; omega) M[i].a
      have hno : M[i].b ∉ r := fun hm => needed hM hring hnd h ((d3 _).1 hm)
      have hrl := rises_len d2 (U := M[i].a :: (M.eraseIdx i).map fun p => p.b) fun x hx => dn_in ((d3 x).1 hx)
      rw [List.length_cons, List.length_map] at hrl
      have := List.length_eraseIdx_le M i
      have hL : law14_NormLeast_L3 n M[i] r n 0 = _ := law14_NormLeast_L3_list n M[i] r (by omega) n () 0 (Nat.zero_le _) (by omega)
      rw [dlt h, if_pos rfl, idxS h, Option.bind_some, e0, Option.bind_some, e2, Option.bind_some, wr1 (by omega), e1, Option.bind_some, e3, Option.bind_some, d1, Option.bind_some, hL, List.drop_zero, nl3 M[i] r hno r fun _ h => h, Option.bind_some]
      exact nl2 hn hlen hM hring hnd c (i + 1) (by omega) (by omega)
    · rw [dnlt (by omega), if_neg (by decide)]
theorem nl5 {n : Nat} {P0 : List GPair} {j : Nat} (hj : j < P0.length) (d : List ByteArray) : ∀ (c k : Nat) (b : Bool), k ≤ d.length → d.length < 1000 → d.length - k < c → law14_NormLeast_L5 n P0 (j : Int) d c (b, (k : Int)) = some (b || (d.drop k).any fun x => decide (x = P0[j].b))
  | 0, _, _, _, _, h => by omega
  | c + 1, k, b, hk, hd, hc => by
    rw [law14_NormLeast_L5]
    by_cases h : k < d.length
    · rw [dlt h, if_pos rfl, wr1 (by omega), List.drop_eq_getElem_cons h, List.any_cons]
      cases b with
      | true =>
        rw [if_pos rfl, nl5 hj d c (k + 1) true (by omega) hd (by omega)]
        simp
      | false =>
        rw [if_neg (by decide), idxS h, Option.bind_some, idxS hj, Option.bind_some, beqS, nl5 hj d c (k + 1) _ (by omega) hd (by omega), Bool.false_or]
    · rw [dnlt (by omega), if_neg (by decide), List.drop_eq_nil_of_le (by omega)]
      simp
theorem nl4 {n : Nat} {P0 M : List GPair} (hn : 30 < n) (h0 : P0.length ≤ 20) (hlen : M.length ≤ 20) (hall : ∀ p ∈ P0, Dn M p.a p.b) : ∀ (c i : Nat), i ≤ P0.length → P0.length - i < c → law14_NormLeast_L4 n P0 ⟨[], [], M, [], [], [], [], []⟩ c (i : Int) = some (.inl ())
  | 0, _, _, h => by omega
  | c + 1, i, hi, hc => by
    rw [law14_NormLeast_L4]
    by_cases h : i < P0.length
    · obtain ⟨r, d1, d2, d3⟩ := down_some (n := n) (p := ⟨[], [], M, [], [], [], [], []⟩) (by simp only; omega) (by simp only; omega) P0[i].a
      have hrl := rises_len d2 (U := P0[i].a :: M.map fun p => p.b) fun x hx => dn_in ((d3 x).1 hx)
      rw [List.length_cons, List.length_map] at hrl
      have h5 : law14_NormLeast_L5 n P0 (i : Int) r n (false, 0) = _ := nl5 h r n 0 false (Nat.zero_le _) (by omega) (by omega)
      have hany : (false || (r.drop 0).any fun x => decide (x = P0[i].b)) = true := by
        rw [List.drop_zero, Bool.false_or, List.any_eq_true]
        exact ⟨_, (d3 _).2 (hall _ (List.getElem_mem h)), decide_eq_true rfl⟩
      rw [dlt h, if_pos rfl, idxS h, Option.bind_some, d1, Option.bind_some, h5, Option.bind_some, hany, if_pos rfl, wr1 (by omega)]
      exact nl4 hn h0 hlen hall c (i + 1) (by omega) (by omega)
    · rw [dnlt (by omega), if_neg (by decide)]
theorem law_normLeast (t0 : List Int) : law14_NormLeast 100 t0 = some true := by
  generalize hP : prs ((t0.drop 0).take (20 - 0)) = P0
  have h0 : P0.length ≤ 20 := by
    rw [← hP]
    refine Nat.le_trans (prs_len _) ?_
    simp
    omega
  have e1 : law14_NormLeast_L1 100 t0 100 ([], 0) = some P0 := by
    have := nl1 (n := 100) t0 100 0 [] (by omega) (by omega) (by simp)
    rw [List.nil_append, hP] at this
    exact this
  have hrk : ∀ p ∈ P0, rkL p.a < rkL p.b := by rw [← hP]; exact prs_rises
  have hrk2 : ∀ p ∈ tOpr.ofL P0, rkL p.a < rkL p.b := fun p hp => hrk p (tOpr.mem_ofL.1 hp)
  obtain ⟨M, l1, l2, l3⟩ := least_some (n := 100) (l := P0) (by omega) (by omega)
  have hring := no_ring hrk2
  have hM : ∀ x, x ∈ M ↔ x ∈ tOpr.ofL P0 ∧ ¬ Said (tOpr.ofL P0) x := l3.elim (fun h => absurd h.1 hring) fun h => h.2
  have hlen : M.length ≤ P0.length := Nat.le_trans l2.length_le (ofL_len tOpr P0)
  have hnd : M.Nodup := (tOpr.nodup (tOpr.rises_ofL P0)).sublist l2
  have hall : ∀ p ∈ P0, Dn M p.a p.b := fun p hp => all_said hrk2 hM _ p (tOpr.mem_ofL.2 hp) (Nat.le_refl _)
  have e2 : law14_NormLeast_L2 100 ⟨[], [], M, [], [], [], [], []⟩ 100 0 = some (.inl ()) := nl2 (by decide) (by omega) hM hring hnd 100 0 (Nat.zero_le _) (by omega)
  have e4 : law14_NormLeast_L4 100 P0 ⟨[], [], M, [], [], [], [], []⟩ 100 0 = some (.inl ()) := nl4 (by decide) h0 (by omega) hall 100 0 (Nat.zero_le _) (by omega)
  unfold law14_NormLeast
  rw [e1, Option.bind_some, normal_some l1, Option.bind_some, e2, Option.bind_some]
  dsimp only
  rw [e4, Option.bind_some]
  dsimp only
  rw [decide_eq_true (show (M.length : Int) ≤ (P0.length : Int) by omega), if_pos rfl]
  rfl
theorem law_normLeast_ex (a0 : List Int) (_ : a0.length ≤ maxLen ∧ ∀ y ∈ a0, (Lit.int .i64 y).wf = true) : ∃ n, law14_NormLeast n a0 = some true := ⟨100, law_normLeast a0⟩
end Go.Proofs.YtkkhgdmmbhpckaaGreat.Ab
