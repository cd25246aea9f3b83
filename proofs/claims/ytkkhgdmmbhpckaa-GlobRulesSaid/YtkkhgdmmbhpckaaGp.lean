/-
  GlobGroups: the plain law; policies that are small.
-/
import Derived.Test.YtkkhgdmmbhpckaaGf
namespace Go.Proofs.Ytkkhgdmmbhpckaa.Ab
open Go.RowKit

theorem wk_forget {D D2 : List (Nat × Nat)} {fr f : Fr} (hD : (D2.all fun p => D.any fun q => Nat.ble q.1 p.1 && Nat.ble p.2 q.2) = true) (h : ∀ t, forget D fr t = .un ∨ forget D fr t = f t) : ∀ t, forget D fr t = .un ∨ forget D fr t = forget D2 f t := fun t => by
  rcases forget_or D2 f t with e | e
  · rw [e]
    by_cases hi : inSp D t = true
    · exact .inl (forget_in hi)
    · rcases h t with h | h
      · exact .inl h
      · by_cases h2 : inSp D2 t = true
        · exfalso
          apply hi
          have gen : ∀ (l : List (Nat × Nat)), (l.all fun p => D.any fun q => Nat.ble q.1 p.1 && Nat.ble p.2 q.2) = true → inSp l t = true → inSp D t = true := by
            intro l
            induction l with
            | nil => intro _ h; cases h
            | cons p r ih =>
              intro h1 h2
              simp only [List.all_cons, Bool.and_eq_true] at h1
              simp only [inSp, Bool.or_eq_true, Bool.and_eq_true, Nat.ble_eq] at h2
              rcases h2 with h2 | h2
              · have gen2 : ∀ (l : List (Nat × Nat)), (l.any fun q => Nat.ble q.1 p.1 && Nat.ble p.2 q.2) = true → inSp l t = true := by
                  intro l
                  induction l with
                  | nil => intro h; cases h
                  | cons q r ih =>
                    intro h
                    simp only [List.any_cons, Bool.or_eq_true, Bool.and_eq_true, Nat.ble_eq] at h
                    simp only [inSp, Bool.or_eq_true, Bool.and_eq_true, Nat.ble_eq]
                    rcases h with h | h
                    · exact .inl ⟨by omega, by omega⟩
                    · exact .inr (ih h)
                exact gen2 D h1.1
              · exact ih h1.2 h2
          exact gen D2 hD h2
        · have out : ∀ (l : List (Nat × Nat)), inSp l t ≠ true → forget l f t = f t := by
            intro l
            induction l with
            | nil => intro _; rfl
            | cons p r ih =>
              intro h
              simp only [inSp, Bool.or_eq_true, Bool.and_eq_true, Nat.ble_eq, ne_eq, not_or] at h
              simp only [forget]
              rw [if_neg h.1]
              exact ih h.2
          rw [out D2 h2] at e
          exact .inl (by rw [h, e])
  · rw [e]; exact h t
theorem wh_cut2 {N N2 : Nat} {M M2 : List Nat} {hp h' : Hp} (hN : N ≤ N2) (hM : ∀ k ∈ M2, N ≤ k ∨ k ∈ M) (h : ∀ t, cutH N M hp t = none ∨ cutH N M hp t = h' t) : ∀ t, cutH N M hp t = none ∨ cutH N M hp t = cutH N2 M2 h' t := fun t => by
  by_cases h1 : N ≤ t
  · exact .inl (cutH_new hp h1 M)
  by_cases h2 : t ∈ M
  · exact .inl (cutH_mem hp h2)
  have gen : ∀ l : List Nat, (∀ k ∈ l, N ≤ k ∨ k ∈ M) → cutH N2 l h' t = h' t := by
    intro l
    induction l with
    | nil => intro _; exact if_neg (by omega)
    | cons k r ih =>
      intro hl
      simp only [cutH]
      rw [if_neg]
      · exact ih fun k hk => hl k (List.mem_cons_of_mem _ hk)
      · intro e
        subst e
        rcases hl t List.mem_cons_self with h | h
        · exact h1 h
        · exact h2 h
  rw [gen M2 hM]
  exact h t
theorem fewG_len (n : Int) : ∀ (xs : List ByteArray) (i : Nat), (fewG n xs i).length ≤ xs.length
  | [], _ => Nat.le_refl _
  | x :: r, i => by
    have := fewG_len n r (i + 1)
    simp only [fewG]
    split <;> simp <;> omega
theorem fewG_mem (n : Int) {y : ByteArray} : ∀ {xs : List ByteArray} {i : Nat}, y ∈ fewG n xs i → y ∈ xs
  | [], _, h => h
  | x :: r, i, h => by
    simp only [fewG] at h
    split at h
    · rcases List.mem_cons.1 h with rfl | h
      · exact List.mem_cons_self
      · exact List.mem_cons_of_mem _ (fewG_mem n h)
    · exact List.mem_cons_of_mem _ (fewG_mem n h)
theorem madeG_mem : ∀ (l : List Int) (s : List Stm) (b : List Bnd), (∀ x ∈ (madeG l s b).1, x ∈ s ∨ ∃ n, x = stmN n) ∧ (∀ x ∈ (madeG l s b).2, x ∈ b ∨ ∃ n, x = bndN n) ∧ (madeG l s b).1.length ≤ s.length + l.length ∧ (madeG l s b).2.length ≤ b.length + l.length
  | [], s, b => ⟨fun x h => .inl h, fun x h => .inl h, Nat.le_refl _, Nat.le_refl _⟩
  | n :: l, s, b => by
    simp only [madeG]
    split
    · obtain ⟨h1, h2, h3, h4⟩ := madeG_mem l s (b ++ [bndN n])
      refine ⟨h1, fun x h => ?_, by simp; omega, by simp at h4 ⊢; omega⟩
      rcases h2 x h with h | h
      · rcases List.mem_append.1 h with h | h
        · exact .inl h
        · exact .inr ⟨n, by simpa using h⟩
      · exact .inr h
    · obtain ⟨h1, h2, h3, h4⟩ := madeG_mem l (s ++ [stmN n]) b
      refine ⟨fun x h => ?_, h2, by simp at h3 ⊢; omega, by simp; omega⟩
      rcases h1 x h with h | h
      · rcases List.mem_append.1 h with h | h
        · exact .inl h
        · exact .inr ⟨n, by simpa using h⟩
      · exact .inr h
/-- Policies that are small: what numbers make. -/
structure Small (p : Pol) : Prop where
  stms : p.stms.length ≤ 8
  bnds : p.bnds.length ≤ 8
  su : ∀ s ∈ p.stms, ∃ n, s = stmN n
  bu : ∀ b ∈ p.bnds, ∃ n, b = bndN n
  grps : p.grps = [⟨{ data := #[103] }, [{ data := #[117] }, { data := #[118] }, { data := #[117] }]⟩, ⟨{ data := #[104] }, [{ data := #[119] }]⟩]
  users : p.users = [{ data := #[117] }, { data := #[118] }, { data := #[119] }, { data := #[117] }]
  acts : p.acts = [{ data := #[103, 101, 116] }, { data := #[103, 101, 116, 97, 108, 108] }, { data := #[112, 117, 116] }, { data := #[108, 105, 115, 116] }]
  ress : p.ress = [{ data := #[97] }, { data := #[97, 98] }, { data := #[98] }]
theorem small_made (l : List Int) : Small (madeP l) := by
  obtain ⟨h1, h2, h3, h4⟩ := madeG_mem (l.take 8) [] []
  refine ⟨?_, ?_, fun s h => ?_, fun b h => ?_, rfl, rfl, rfl, rfl⟩
  · simp only [madeP, polB]; simp at h3; omega
  · simp only [madeP, polB]; simp at h4; omega
  · rcases h1 s h with h | h
    · cases h
    · exact h
  · rcases h2 b h with h | h
    · cases h
    · exact h
theorem fitP_few (n : Int) (xs : List ByteArray) (i : Nat) (h1 : xs.length ≤ 60) (h2 : ∀ x ∈ xs, x.size < 4611686018427387904) : FitP (fewG n xs i) :=
  ⟨by have := fewG_len n xs i; show _ < _; omega, fun x h => h2 x (fewG_mem n h)⟩
theorem lA_small : ∀ x ∈ lA, x.size < 4611686018427387904 := by decide
theorem lR_small : ∀ x ∈ lR, x.size < 4611686018427387904 := by decide
theorem small_stm (n : Int) : (stmN n).users.length ≤ 3 ∧ (stmN n).groups.length ≤ 2 ∧ FitP (stmN n).acts ∧ FitP (stmN n).ress :=
  ⟨fewG_len _ lU 0, fewG_len _ lG 0, fitP_few _ lA 0 (by decide) lA_small, fitP_few _ lR 0 (by decide) lR_small⟩
theorem small_fit {p : Pol} (h : Small p) : FitPol p where
  users := by rw [h.users]; decide
  acts := by rw [h.acts]; decide
  ress := by rw [h.ress]; decide
  grps := by rw [h.grps]; decide
  gu := by rw [h.grps]; decide
  stms := by have := h.stms; show _ < _; omega
  su := fun s hs => by
    obtain ⟨n, rfl⟩ := h.su s hs
    obtain ⟨h1, h2, h3, h4⟩ := small_stm n
    exact ⟨by show _ < _; omega, by show _ < _; omega, h3, h4⟩
  bnds := by have := h.bnds; show _ < _; omega
  bu := fun b hb => by
    obtain ⟨n, rfl⟩ := h.bu b hb
    exact ⟨fitP_few _ lA 0 (by decide) lA_small, fitP_few _ lR 0 (by decide) lR_small⟩
def fltK (g : ByteArray) (us : List ByteArray) : List Grp → List ByteArray
  | [] => us
  | x :: r => fltK g (if eqS x.name g then us ++ x.users else us) r
/-- A statement told for just the users. -/
def flatU (p : Pol) (us : List ByteArray) : List ByteArray → List ByteArray
  | [] => us
  | g :: r => flatU p (fltK g us p.grps) r
def flatS (p : Pol) (s : Stm) : Stm := { s with users := flatU p s.users s.groups, groups := [] }
def flatP (p : Pol) : Pol := { p with stms := p.stms.map (flatS p) }
theorem chk_str (xs : List ByteArray) : chk 1 (xs.map fun x => [D.v (.string x)]) = true := by simp [chk]
theorem fltK_len (g : ByteArray) : ∀ (gs : List Grp) (us : List ByteArray), (∀ x ∈ gs, x.users.length ≤ 3) → (fltK g us gs).length ≤ us.length + 3 * gs.length
  | [], us, _ => Nat.le_refl _
  | x :: r, us, h => by
    have h1 := fltK_len g r (if eqS x.name g then us ++ x.users else us) fun y hy => h y (List.mem_cons_of_mem _ hy)
    have h2 := h x List.mem_cons_self
    simp only [fltK, List.length_cons]
    cases hb : eqS x.name g <;> simp [hb] at h1 ⊢ <;> omega
theorem flatU_len {p : Pol} (hs : Small p) : ∀ (gs us : List ByteArray), (flatU p us gs).length ≤ us.length + 6 * gs.length
  | [], us => Nat.le_refl _
  | g :: r, us => by
    have h1 := flatU_len hs r (fltK g us p.grps)
    have h2 := fltK_len g p.grps us (by rw [hs.grps]; decide)
    have h3 : p.grps.length = 2 := by rw [hs.grps]; rfl
    simp only [flatU, List.length_cons]
    omega
theorem fit_flat {p : Pol} (hs : Small p) : FitPol (flatP p) where
  users := (small_fit hs).users
  acts := (small_fit hs).acts
  ress := (small_fit hs).ress
  grps := (small_fit hs).grps
  gu := (small_fit hs).gu
  stms := by have := (small_fit hs).stms; simpa [flatP] using this
  su := fun s h => by
    obtain ⟨s0, h0, rfl⟩ := List.mem_map.1 h
    obtain ⟨n, rfl⟩ := hs.su s0 h0
    obtain ⟨h1, h2, h3, h4⟩ := small_stm n
    have := flatU_len hs (stmN n).groups (stmN n).users
    exact ⟨by show (flatU p (stmN n).users (stmN n).groups).length < _; omega, by show (0 : Nat) < _; decide, h3, h4⟩
  bnds := (small_fit hs).bnds
  bu := (small_fit hs).bu
theorem fltK_any (g u : ByteArray) : ∀ (gs : List Grp) (us : List ByteArray), (fltK g us gs).any (eqS u) = (us.any (eqS u) || gs.any fun x => eqS x.name g && x.users.any (eqS u))
  | [], us => by simp [fltK]
  | x :: r, us => by
    simp only [fltK, fltK_any g u r, List.any_cons]
    cases eqS x.name g <;> simp [Bool.or_assoc]
theorem flatU_any (p : Pol) (u : ByteArray) : ∀ (gs us : List ByteArray), (flatU p us gs).any (eqS u) = (us.any (eqS u) || gs.any fun g => inB p u g)
  | [], us => by simp [flatU]
  | g :: r, us => by
    simp only [flatU, flatU_any p u r, fltK_any, List.any_cons, inB, Bool.or_assoc]
theorem beaB_flat (p : Pol) (s : Stm) (u a r : ByteArray) : beaB (flatP p) (flatS p s) u a r = beaB p s u a r := by
  simp only [beaB, flatS, flatU_any, List.any_nil, Bool.or_false]
theorem mayL_flat (p : Pol) (u a r : ByteArray) : ∀ (l : List Stm) (al : Bool), mayL (flatP p) u a r (l.map (flatS p)) al = mayL p u a r l al
  | [], al => rfl
  | s :: l, al => by
    simp only [List.map_cons, mayL, beaB_flat, mayL_flat p u a r l]
    rfl
theorem mayB_flat (p : Pol) (u a r : ByteArray) : mayB (flatP p) u a r = mayB p u a r := by
  simp only [mayB]
  rw [show (flatP p).stms = p.stms.map (flatS p) from rfl, mayL_flat]
  rfl
theorem who_or (n : Int) : (askN n).who = { data := #[117] } ∨ (askN n).who = { data := #[118] } ∨ (askN n).who = { data := #[119] } ∨ (askN n).who = { data := #[120] } := by
  have h : an n 3 < 4 := Nat.lt_succ_of_le (an_le n 3)
  show whoS (an n 3) = _ ∨ whoS (an n 3) = _ ∨ whoS (an n 3) = _ ∨ whoS (an n 3) = _
  match an n 3, h with
  | 0, _ => exact .inl rfl
  | 1, _ => exact .inr (.inl rfl)
  | 2, _ => exact .inr (.inr (.inl rfl))
  | 3, _ => exact .inr (.inr (.inr rfl))
end Go.Proofs.Ytkkhgdmmbhpckaa.Ab
