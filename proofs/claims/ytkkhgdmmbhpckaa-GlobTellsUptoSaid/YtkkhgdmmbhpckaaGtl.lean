/-
  GlobTells: the plain law.
-/
import Derived.Test.YtkkhgdmmbhpckaaGtm
import Derived.Test.YtkkhgdmmbhpckaaGtzo
namespace Go.Proofs.Ytkkhgdmmbhpckaa.Ab
open Go.RowKit

def Tot {α : Type} (o : Option α) : Prop := ∃ z, o = some z
theorem Tot.bind {α β : Type} {o : Option α} {f : α → Option β} (h : Tot o) (hf : ∀ z, Tot (f z)) : Tot (o.bind f) := by
  obtain ⟨z, rfl⟩ := h
  exact hf z
theorem Tot.some {α : Type} (z : α) : Tot (some z) := ⟨z, rfl⟩
theorem foldK_tot {α S X : Type} {f : S → α → (S → Option X) → Option X} {e : S → Option X} (he : ∀ st, Tot (e st)) : ∀ (xs : List α) (st : S), (∀ st x k, x ∈ xs → (∀ st', Tot (k st')) → Tot (f st x k)) → Tot (foldK f e xs st)
  | [], st, _ => he st
  | x :: r, st, h => by
    rw [foldK]
    exact h st x _ (List.mem_cons_self ..) fun st' => foldK_tot he r st' fun st y k hy => h st y k (List.mem_cons_of_mem _ hy)
theorem count_tot {L : Nat → Int × Int → Option Int} {xs : List ByteArray} {g : Int → ByteArray → Int} (h0 : ∀ c t i, L (c + 1) (t, i) = if decide (i < (xs.length : Int)) then (if decide (i < 40) then (idx xs i).bind fun x => L c (g t x, IntKind.i64.wrap (i + 1)) else some t) else some t) : ∀ (c j : Nat) (t : Int), 40 - j < c → j ≤ 40 → Tot (L c (t, (j : Int)))
  | 0, _, _, h, _ => by omega
  | c + 1, j, t, hc, h40 => by
    rw [h0]
    by_cases hlt : j < xs.length
    · rw [dlt hlt, if_pos rfl]
      by_cases h4 : j < 40
      · rw [decide_eq_true (by omega), if_pos rfl, idxS hlt, Option.bind_some, wr1 (by omega)]
        exact count_tot h0 c (j + 1) _ (by omega) (by omega)
      · rw [decide_eq_false (by omega), if_neg (by decide)]
        exact Tot.some _
    · rw [dnlt (by omega), if_neg (by decide)]
      exact Tot.some _
section
variable {n : Nat} (hn : 100 < n)
include hn
theorem c1_tot (p : GPolicy) : Tot (law23_Small_C1_law23_Small_c1 n p) := Tot.bind (count_tot (L := law23_Small_L1 n p) (fun _ _ _ => rfl) n 0 0 (by omega) (by omega)) fun _ => Tot.some _
theorem c2_tot (p : GPolicy) (t : Int) : Tot (law23_Small_C2_law23_Small_c1 n p t) := Tot.bind (count_tot (L := law23_Small_L2 n p) (fun _ _ _ => rfl) n 0 t (by omega) (by omega)) fun _ => Tot.some _
theorem c3_tot (p : GPolicy) (t : Int) : Tot (law23_Small_C3_law23_Small_c1 n p t) := Tot.bind (count_tot (L := law23_Small_L3 n p) (fun _ _ _ => rfl) n 0 t (by omega) (by omega)) fun _ => Tot.some _
theorem c4_tot (t : Int) (l : List ByteArray) : Tot (law23_Small_C4_law23_Small_c1 n t l) := Tot.bind (count_tot (L := law23_Small_L5 n l) (fun _ _ _ => rfl) n 0 t (by omega) (by omega)) fun _ => Tot.some _
theorem c5_tot (t : Int) (x : GStmt) : Tot (law23_Small_C5_law23_Small_c1 n t x) := Tot.bind (count_tot (L := law23_Small_L7 n x) (xs := [x.sid]) (fun _ _ _ => rfl) n 0 t (by omega) (by omega)) fun _ => Tot.some _
theorem c6_tot (t : Int) (x : GStmt) : Tot (law23_Small_C6_law23_Small_c1 n x t) := Tot.bind (count_tot (L := law23_Small_L8 n x) (fun _ _ _ => rfl) n 0 t (by omega) (by omega)) fun _ => Tot.some _
theorem c7_tot (t : Int) (x : GStmt) : Tot (law23_Small_C7_law23_Small_c1 n x t) := Tot.bind (count_tot (L := law23_Small_L9 n x) (fun _ _ _ => rfl) n 0 t (by omega) (by omega)) fun _ => Tot.some _
theorem c8_tot (t : Int) (x : GStmt) : Tot (law23_Small_C8_law23_Small_c1 n x t) := Tot.bind (count_tot (L := law23_Small_L10 n x) (fun _ _ _ => rfl) n 0 t (by omega) (by omega)) fun _ => Tot.some _
theorem c9_tot (t : Int) (x : GStmt) : Tot (law23_Small_C9_law23_Small_c1 n x t) := Tot.bind (count_tot (L := law23_Small_L11 n x) (fun _ _ _ => rfl) n 0 t (by omega) (by omega)) fun _ => Tot.some _
theorem c10_tot (t : Int) (x : GBound) : Tot (law23_Small_C10_law23_Small_c1 n t x) := Tot.bind (count_tot (L := law23_Small_L13 n x) (xs := [x.user]) (fun _ _ _ => rfl) n 0 t (by omega) (by omega)) fun _ => Tot.some _
theorem c11_tot (t : Int) (x : GBound) : Tot (law23_Small_C11_law23_Small_c1 n t x) := Tot.bind (count_tot (L := law23_Small_L14 n x) (fun _ _ _ => rfl) n 0 t (by omega) (by omega)) fun _ => Tot.some _
theorem c12_tot (t : Int) (x : GBound) : Tot (law23_Small_C12_law23_Small_c1 n t x) := Tot.bind (count_tot (L := law23_Small_L15 n x) (fun _ _ _ => rfl) n 0 t (by omega) (by omega)) fun _ => Tot.some _
theorem l12_tot {p : GPolicy} (hp : p.bounds.length < 4611686018427387904) : ∀ (c j : Nat) (t : Int), j ≤ p.bounds.length → p.bounds.length - j < c → Tot (law23_Small_L12 n p c (t, (j : Int)))
  | 0, _, _, _, h => by omega
  | c + 1, j, t, hj, hc => by
    unfold law23_Small_L12
    by_cases hlt : j < p.bounds.length
    · rw [dlt hlt, if_pos rfl, idxS hlt, wr1 (by omega)]
      exact Tot.bind (Tot.some _) fun _ => Tot.bind (c10_tot hn _ _) fun _ => Tot.bind (Tot.some _) fun _ => Tot.bind (c11_tot hn _ _) fun _ => Tot.bind (Tot.some _) fun _ => Tot.bind (c12_tot hn _ _) fun _ => l12_tot hp c (j + 1) _ (by omega) (by omega)
    · rw [dnlt (by omega), if_neg (by decide)]
      exact Tot.some _
theorem small_tot {p : GPolicy} (h : okGPolicy 1048576 p) (hn2 : 1048577 < n) : Tot (law23_Small n p) := by
  obtain ⟨_, _, _, hg, hs, hb, _⟩ := h
  have hg1 := hg.1
  have hs1 := hs.1
  have hb1 := hb.1
  have e4 : ∀ t, Tot (law23_Small_L4 n p n (t, 0)) := fun t => by
    have h0 : law23_Small_L4 n p n (t, 0) = _ := law23_Small_L4_list n p (by omega) n t 0 (by omega) (by omega)
    rw [h0]
    refine foldK_tot (fun _ => Tot.some _) _ _ fun st x k hx hk => ?_
    have := (hg.2 x (List.mem_of_mem_drop hx)).2.1.1
    unfold law23_Small_L4_f
    dsimp only
    rw [appS (by simp; omega)]
    exact Tot.bind (Tot.some _) fun _ => Tot.bind (c4_tot hn _ _) hk
  have e6 : ∀ t, Tot (law23_Small_L6 n p n (t, 0)) := fun t => by
    have h0 : law23_Small_L6 n p n (t, 0) = _ := law23_Small_L6_list n p (by omega) n t 0 (by omega) (by omega)
    rw [h0]
    refine foldK_tot (fun _ => Tot.some _) _ _ fun st x k hx hk => ?_
    unfold law23_Small_L6_f
    exact Tot.bind (c5_tot hn _ _) fun _ => Tot.bind (c6_tot hn _ _) fun _ => Tot.bind (c7_tot hn _ _) fun _ => Tot.bind (c8_tot hn _ _) fun _ => Tot.bind (c9_tot hn _ _) hk
  unfold law23_Small
  refine Tot.bind ?_ fun b => ?_
  · split
    · exact Tot.some _
    · split
      · exact Tot.some _
      · exact Tot.some _
  · split
    · exact Tot.some _
    · exact Tot.bind (c1_tot hn _) fun _ => Tot.bind (c2_tot hn _ _) fun _ => Tot.bind (c3_tot hn _ _) fun _ => Tot.bind (e4 _) fun _ => Tot.bind (e6 _) fun _ => Tot.bind (l12_tot hn (by omega) n 0 _ (by omega) (by omega)) fun _ => Tot.some _
end
/-! ### policies of numbers -/
theorem u64_pos (x : Int) : decide (0 ≤ IntKind.u64.wrap x) = true := by
  have : 0 ≤ IntKind.u64.wrap x := by
    show 0 ≤ x % 18446744073709551616
    omega
  exact decide_eq_true this
theorem few_loop {n : Nat} {z : Int} {al : List ByteArray} (ha : al.length ≤ 8) : ∀ (c j : Nat) (acc : List ByteArray), j ≤ al.length → al.length - j < c → acc.length ≤ j → (∀ y ∈ acc, y ∈ al) → ∃ r, law23_Made_c1_L1 n z al c (acc, (j : Int)) = some r ∧ r.length ≤ al.length ∧ ∀ y ∈ r, y ∈ al
  | 0, _, _, _, h, _, _ => by omega
  | c + 1, j, acc, hj, hc, hl, hm => by
    have ih := few_loop (n := n) (z := z) ha c
    unfold law23_Made_c1_L1
    by_cases hlt : j < al.length
    · rw [dlt hlt, if_pos rfl, u64_pos]
      unfold grd
      rw [if_pos rfl, wr1 (by omega)]
      split
      · rw [idxS hlt, Option.bind_some, appS (by simp; omega), Option.bind_some]
        exact ih _ _ (by omega) (by omega) (by simp; omega) fun y hy => by
          rcases List.mem_append.1 hy with h | h
          · exact hm y h
          · rw [List.mem_singleton.1 h]; exact List.getElem_mem hlt
      · exact ih _ _ (by omega) (by omega) (by omega) hm
    · rw [dnlt (by omega), if_neg (by decide)]
      exact ⟨acc, rfl, by omega, hm⟩
theorem few_some {n : Nat} {z : Int} {al : List ByteArray} (hn : 100 < n) (ha : al.length ≤ 8) : ∃ r, law23_Made_c1 n z al = some r ∧ r.length ≤ al.length ∧ ∀ y ∈ r, y ∈ al := by
  obtain ⟨r, h1, h2, h3⟩ := few_loop (n := n) (z := z) ha n 0 [] (by omega) (by omega) (by simp) (by simp)
  have h1' : law23_Made_c1_L1 n z al n ([], 0) = some r := h1
  exact ⟨r, by unfold law23_Made_c1; rw [h1']; rfl, h2, h3⟩
def sOK (s : GStmt) : Prop := s.users.length < 100 ∧ s.groups.length < 100 ∧ (s.actions.length < 100 ∧ ∀ x ∈ s.actions, x.size < 100) ∧ (s.resources.length < 100 ∧ ∀ x ∈ s.resources, x.size < 100)
def bOK (b : GBound) : Prop := (b.actions.length < 100 ∧ ∀ x ∈ b.actions, x.size < 100) ∧ (b.resources.length < 100 ∧ ∀ x ∈ b.resources, x.size < 100)
theorem made_loop {n : Nat} {l : List Int} (hn : 100 < n) : ∀ (c j : Nat) (ss : List GStmt) (bs : List GBound), j ≤ l.length → l.length - j < c → j ≤ 8 → ss.length ≤ j → bs.length ≤ j → (∀ s ∈ ss, sOK s) → (∀ b ∈ bs, bOK b) → ∃ r, law23_Made_L1 n l c (ss, bs, (j : Int)) = some r ∧ r.1.length ≤ 8 ∧ r.2.length ≤ 8 ∧ (∀ s ∈ r.1, sOK s) ∧ ∀ b ∈ r.2, bOK b
  | 0, _, _, _, _, h, _, _, _, _, _ => by omega
  | c + 1, j, ss, bs, hj, hc, h8, hs, hb, hso, hbo => by
    have ih := made_loop hn (l := l) c
    unfold law23_Made_L1
    by_cases hlt : j < l.length
    · rw [dlt hlt, if_pos rfl, Option.bind_some]
      dsimp only
      by_cases h8' : j < 8
      · rw [decide_eq_true (by omega), if_pos rfl, idxS hlt, Option.bind_some, wr1 (by omega)]
        obtain ⟨a, a1, a2, a3⟩ := few_some (n := n) (z := sh l[j] 16) (al := [{ data := #[42] }, { data := #[103, 101, 116, 42] }, { data := #[103, 101, 116] }, { data := #[112, 117, 116] }, { data := #[108, 42] }, { data := #[122, 42] }]) hn (by decide)
        obtain ⟨r, r1, r2, r3⟩ := few_some (n := n) (z := sh l[j] 24) (al := [{ data := #[42] }, { data := #[97, 42] }, { data := #[98] }, { data := #[97, 98] }, { data := #[97] }]) hn (by decide)
        obtain ⟨u, u1, u2, u3⟩ := few_some (n := n) (z := sh l[j] 32) (al := [{ data := #[117] }, { data := #[118] }, { data := #[119] }]) hn (by decide)
        obtain ⟨g, g1, g2, g3⟩ := few_some (n := n) (z := sh l[j] 36) (al := [{ data := #[103] }, { data := #[104] }]) hn (by decide)
        have a4 : a.length < 100 ∧ ∀ x ∈ a, x.size < 100 := ⟨Nat.lt_of_le_of_lt a2 (by decide), fun x hx => by
          have := a3 x hx
          revert this
          generalize x = y
          intro hy
          simp only [List.mem_cons, List.not_mem_nil, or_false] at hy
          rcases hy with rfl | rfl | rfl | rfl | rfl | rfl <;> decide⟩
        have r4 : r.length < 100 ∧ ∀ x ∈ r, x.size < 100 := ⟨Nat.lt_of_le_of_lt r2 (by decide), fun x hx => by
          have := r3 x hx
          revert this
          generalize x = y
          intro hy
          simp only [List.mem_cons, List.not_mem_nil, or_false] at hy
          rcases hy with rfl | rfl | rfl | rfl | rfl <;> decide⟩
        have u4 : u.length < 100 := Nat.lt_of_le_of_lt u2 (by decide)
        have g4 : g.length < 100 := Nat.lt_of_le_of_lt g2 (by decide)
        rw [a1, Option.bind_some, r1, Option.bind_some, u1, g1]
        split
        · have k1 : an (sh l[j] 8) 255 % 3 < 3 := Nat.mod_lt _ (by decide)
          have e1 : Int.tmod (IntKind.i64.wrap (an (sh l[j] 8) 255 : Int)) 3 = ((an (sh l[j] 8) 255 % 3 : Nat) : Int) := by rw [an8]; exact tmod_nat _ 3
          rw [e1, idxS (show _ < [_, _, _].length from k1), Option.bind_some, appS (by simp; omega), Option.bind_some]
          exact ih _ _ _ (by omega) (by omega) (by omega) (by omega) (by simp; omega) hso fun b hb' => by
            rcases List.mem_append.1 hb' with h | h
            · exact hbo b h
            · rw [List.mem_singleton.1 h]; exact ⟨a4, r4⟩
        · have k1 : an (sh l[j] 40) 7 < 8 := Nat.lt_of_le_of_lt (an_le _ _) (by decide)
          have e1 : IntKind.i64.wrap (an (sh l[j] 40) 7 : Int) = ((an (sh l[j] 40) 7 : Nat) : Int) := wrap_an _ _ (by decide)
          rw [e1, idxS (show _ < [_, _, _, _, _, _, _, _].length from k1), Option.bind_some, Option.bind_some, Option.bind_some, appS (by simp; omega), Option.bind_some]
          exact ih _ _ _ (by omega) (by omega) (by omega) (by simp; omega) (by omega) (fun s hs' => by
            rcases List.mem_append.1 hs' with h | h
            · exact hso s h
            · rw [List.mem_singleton.1 h]; exact ⟨u4, g4, a4, r4⟩) hbo
      · rw [decide_eq_false (by omega), if_neg (by decide)]
        exact ⟨(ss, bs), rfl, by show ss.length ≤ 8; omega, by show bs.length ≤ 8; omega, hso, hbo⟩
    · rw [dnlt (by omega), if_neg (by decide), Option.bind_some]
      dsimp only
      rw [if_neg (by decide)]
      exact ⟨(ss, bs), rfl, by show ss.length ≤ 8; omega, by show bs.length ≤ 8; omega, hso, hbo⟩
theorem made_ok' {n : Nat} {l : List Int} (hn : 100 < n) (hl : l.length < n) : ∃ p, law23_Made n l = some p ∧ PolOK n p := by
  obtain ⟨⟨ss, bs⟩, h1, h2, h3, h4, h5⟩ := made_loop (n := n) (l := l) hn n 0 [] [] (by omega) (by omega) (by omega) (by simp) (by simp) (by simp) (by simp)
  have h1' : law23_Made_L1 n l n ([], [], 0) = some (ss, bs) := h1
  refine ⟨_, by unfold law23_Made; rw [h1']; rfl, ?_⟩
  dsimp only at h2 h3 h4 h5
  exact ⟨by show 4 < n; omega, by show 4 < n; omega, by show 3 < n; omega, by show 2 < n; omega, fun g hg => by
      simp only [List.mem_cons, List.not_mem_nil, or_false] at hg
      rcases hg with rfl | rfl
      · show 3 < n; omega
      · show 1 < n; omega,
    by show ss.length < n; omega, fun s hs => by
      obtain ⟨s1, s2, ⟨s3, s4⟩, s5, s6⟩ := h4 s hs
      exact ⟨by omega, by omega, ⟨by omega, fun x hx => by have := s4 x hx; omega⟩, by omega, fun x hx => by have := s6 x hx; omega⟩,
    by show bs.length < n; omega, fun b hb => by
      obtain ⟨⟨s3, s4⟩, s5, s6⟩ := h5 b hb
      exact ⟨⟨by omega, fun x hx => by have := s4 x hx; omega⟩, by omega, fun x hx => by have := s6 x hx; omega⟩⟩
theorem ask_tot (n : Nat) (k : Int) : ∃ a, law24_Ask n k = some a := by
  have k1 : an k 3 < 4 := Nat.lt_of_le_of_lt (an_le _ _) (by decide)
  have k2 : an (sh k 2) 255 % 5 < 5 := Nat.mod_lt _ (by decide)
  have k3 : an (sh k 10) 3 < 4 := Nat.lt_of_le_of_lt (an_le _ _) (by decide)
  have e1 : IntKind.i64.wrap (an k 3 : Int) = ((an k 3 : Nat) : Int) := wrap_an _ _ (by decide)
  have e3 : IntKind.i64.wrap (an (sh k 10) 3 : Int) = ((an (sh k 10) 3 : Nat) : Int) := wrap_an _ _ (by decide)
  have e2 : Int.tmod (IntKind.i64.wrap (an (sh k 2) 255 : Int)) 5 = ((an (sh k 2) 255 % 5 : Nat) : Int) := by rw [an8]; exact tmod_nat _ 5
  unfold law24_Ask
  rw [e1, e2, e3, idxS (show _ < [_, _, _, _].length from k1), Option.bind_some, idxS (show _ < [_, _, _, _, _].length from k2), Option.bind_some, idxS (show _ < [_, _, _, _].length from k3), Option.bind_some]
  exact ⟨_, rfl⟩
theorem polOK_of {p : GPolicy} (h : okGPolicy 1048576 p) {n : Nat} (hn : 1048576 < n) : PolOK n p := by
  obtain ⟨h1, h2, h3, h4, h5, h6, _⟩ := h
  have lt : ∀ {l : List ByteArray}, okLs okTx 1048576 l → l.length < n ∧ ∀ x ∈ l, x.size < n := fun k => ⟨by have := k.1; omega, fun x hx => by have : x.size ≤ 1048576 := k.2 x hx; omega⟩
  exact ⟨(lt h1).1, (lt h2).1, (lt h3).1, by have := h4.1; omega, fun g hg => (lt (h4.2 g hg).2.1).1, by have := h5.1; omega, fun s hs => by
    obtain ⟨_, _, k1, k2, k3, k4, _⟩ := h5.2 s hs
    exact ⟨(lt k1).1, (lt k2).1, lt k3, lt k4⟩, by have := h6.1; omega, fun b hb => by
    obtain ⟨_, k3, k4, _⟩ := h6.2 b hb
    exact ⟨lt k3, lt k4⟩⟩
theorem tells_loop {n : Nat} {l : List Int} {k : Int} (hn : 100 < n) (hn2 : n < 4611686018427387904) (hl : l.length < n) : ∀ (c j : Nat) (p : GPolicy) (s : Bool) (u a r : ByteArray), j ≤ 2 → 2 - j < c → PolOK n p → ∃ q : GPolicy, ∃ (s' : Bool) (u' a' r' : ByteArray), PolOK n q ∧ law24_GlobTells_L3 n l k c (p.users, p.actions, p.resources, p.groups, p.stmts, p.bounds, s, u, a, r, (j : Int)) = some (.inl (q.users, q.actions, q.resources, q.groups, q.stmts, q.bounds, s', u', a', r'))
  | 0, _, _, _, _, _, _, _, h, _ => by omega
  | c + 1, j, p, s, u, a, r, hj, hc, hp => by
    unfold law24_GlobTells_L3
    by_cases hlt : j < 2
    · obtain ⟨q, hq1, hq2⟩ := made_ok' (n := n) (l := l) hn hl
      obtain ⟨w, hw⟩ := ask_tot n k
      have hp' : PolOK n (⟨p.users, p.actions, p.resources, p.groups, p.stmts, p.bounds⟩ : GPolicy) := hp
      obtain ⟨q2, s2, u2, a2, r2, k1, k2⟩ := tells_loop hn hn2 hl c (j + 1) q w.session w.who w.act w.obj (by omega) (by omega) hq2 (k := k)
      refine ⟨q2, s2, u2, a2, r2, k1, ?_⟩
      rw [decide_eq_true (by omega), if_pos rfl, mayG_some hp' hn2, may22_some hp' hn2, Option.bind_some, Option.bind_some, beq_self_eq_true, if_pos rfl, in_some hp' hn2, inside_some hp' hn2, Option.bind_some, Option.bind_some, beq_self_eq_true, Option.bind_some]
      rw [if_neg (by decide), hq1, hw, Option.bind_some, Option.bind_some, wr1 (by omega)]
      exact k2
    · rw [decide_eq_false (by omega), if_neg (by decide)]
      exact ⟨p, s, u, a, r, hp, rfl⟩
theorem law_tells (t0 t1 : ByteArray) (t2 t3 : List ByteArray) (t4 : GPolicy) (t5 : List Int) (t6 : GAsk) (t7 : Int) (k0 : okTx 1048576 t0) (_ : okTx 1048576 t1) (k2 : okLs okTx 1048576 t2) (k3 : okLs okTx 1048576 t3) (k4 : okGPolicy 1048576 t4) (k5 : okLs (okIn .i64) 1048576 t5) (_ : okGAsk 1048576 t6) (_ : okIn .i64 1048576 t7) : ∃ n, law24_GlobTells n t0 t1 t2 t3 t4 t5 t6 t7 = some true := by
  refine ⟨5000000, ?_⟩
  have h0 : t0.size ≤ 1048576 := k0
  have h2 := k2.1
  have h3 := k3.1
  have h5 := k5.1
  have hs2 : ∀ x ∈ t2, x.size < 5000000 := fun x hx => by have : x.size ≤ 1048576 := k2.2 x hx; omega
  have hpol := polOK_of k4 (n := 5000000) (by omega)
  obtain ⟨sm, hsm⟩ := small_tot (n := 5000000) (by omega) k4 (by omega)
  have lp1 : ∃ b : Bool, law24_GlobTells_L1 5000000 t2 5000000 0 = some (if b then .inr true else .inl ()) := by
    have h : law24_GlobTells_L1 5000000 t2 5000000 0 = _ := law24_GlobTells_L1_list 5000000 t2 (by omega) 5000000 () 0 (by omega) (by omega)
    rw [h, foldK_exit (f := law24_GlobTells_L1_f 5000000 t2) (e := law24_GlobTells_L1_e 5000000 t2) (fun x : ByteArray => decide (60 < (x.size : Int))) (.inr true) (fun _ _ => ()) _ _ (fun _ _ _ _ => rfl)]
    refine ⟨(t2.drop 0).any fun x => decide (60 < (x.size : Int)), ?_⟩
    cases (t2.drop 0).any fun x => decide (60 < (x.size : Int)) <;> rfl
  have lp2 : ∃ b : Bool, law24_GlobTells_L2 5000000 t3 5000000 0 = some (if b then .inr true else .inl ()) := by
    have h : law24_GlobTells_L2 5000000 t3 5000000 0 = _ := law24_GlobTells_L2_list 5000000 t3 (by omega) 5000000 () 0 (by omega) (by omega)
    rw [h, foldK_exit (f := law24_GlobTells_L2_f 5000000 t3) (e := law24_GlobTells_L2_e 5000000 t3) (fun x : ByteArray => decide (60 < (x.size : Int))) (.inr true) (fun _ _ => ()) _ _ (fun _ _ _ _ => rfl)]
    refine ⟨(t3.drop 0).any fun x => decide (60 < (x.size : Int)), ?_⟩
    cases (t3.drop 0).any fun x => decide (60 < (x.size : Int)) <;> rfl
  obtain ⟨b1, hb1⟩ := lp1
  obtain ⟨b2, hb2⟩ := lp2
  obtain ⟨q, s', u', a', r', hq, hL⟩ := tells_loop (n := 5000000) (l := t5) (k := t7) (by omega) (by omega) (by omega) 5000000 0 t4 t6.session t6.who t6.act t6.obj (by omega) (by omega) hpol
  have hL' : law24_GlobTells_L3 5000000 t5 t7 5000000 (t4.users, t4.actions, t4.resources, t4.groups, t4.stmts, t4.bounds, t6.session, t6.who, t6.act, t6.obj, 0) = _ := hL
  have hq' : PolOK 5000000 (⟨q.users, q.actions, q.resources, q.groups, q.stmts, q.bounds⟩ : GPolicy) := hq
  have hf := List.length_filter_le (fun s => mtB t2 s) t3
  have hfo := ofL_len tx (t3.filter fun s => mtB t2 s)
  have ov : glob_Over 5000000 t2 t3 = some (tx.ofL (t3.filter fun s => mtB t2 s)) := over_some (by omega) (by omega) (fun x hx => by have := hs2 x hx; omega) (by omega) (by omega)
  have ov2 : ref22_Over 5000000 t2 t3 = some (tx.ofL (t3.filter fun s => mtB t2 s)) := over22_some (by omega) (by omega) hs2 (by omega) (by omega)
  have head : ∀ X : Option Bool, X = some true → ∀ o : Option Bool, Tot o → (o.bind fun t => if t = true then (law24_awake 5000000).bind fun t => some t else X) = some true := fun X hX o ⟨z, hz⟩ => by
    rw [hz, Option.bind_some]
    cases z with
    | true => rfl
    | false => rw [if_neg (by decide), hX]
  unfold law24_GlobTells
  refine head _ ?_ _ ?_
  · rw [hb1]
    cases b1 with
    | true => rfl
    | false =>
      rw [if_neg (by decide), Option.bind_some]
      dsimp only
      rw [hb2]
      cases b2 with
      | true => rfl
      | false =>
        rw [if_neg (by decide), Option.bind_some]
        dsimp only
        rw [match_some (by omega), match22_some (by omega), Option.bind_some, Option.bind_some, beq_self_eq_true, if_pos rfl, ov, ov2, Option.bind_some, Option.bind_some, sameTexts_some (by omega) (by omega), Option.bind_some, decide_eq_true rfl, Option.bind_some]
        rw [if_neg (by decide), hL', Option.bind_some]
        dsimp only
        rw [in_some hq' (by omega), inside_some hq' (by omega), Option.bind_some, Option.bind_some, beq_self_eq_true, if_pos rfl]
        rfl
  · split
    · exact Tot.some _
    · split
      · exact Tot.some _
      · split
        · exact Tot.some _
        · rw [hsm, Option.bind_some]
          split
          · exact Tot.some _
          · exact Tot.some _
end Go.Proofs.Ytkkhgdmmbhpckaa.Ab
