/-
  PermFirst: the law. No program in sight.
-/
import Derived.Test.YthnejfmbglbpgaaDoorPfl
import Derived.Test.YthnejfmbglbpgaaDoorPgd
namespace Go.Proofs.YthnejfmbglbpgaaDoor.Ab
open Go.RowKit Go.Sort Go.Shelf
section
variable {b0 b3 b6 b9 b12 b15 : Int} (h0 : 0 ≤ b0 ∧ b0 ≤ 7) (h3 : 0 ≤ b3 ∧ b3 ≤ 7) (h6 : 0 ≤ b6 ∧ b6 ≤ 7) (h9 : 0 ≤ b9 ∧ b9 ≤ 7) (h12 : 0 ≤ b12 ∧ b12 ≤ 7) (h15 : 0 ≤ b15 ∧ b15 ≤ 7)
variable {g h : List ByteArray} (hg : g.length < 100) (hh : h.length < 100) {b : Int} (hb : b = 1 ∨ b = 2 ∨ b = 4)
include h0 h3 h6 h9 h12 h15 hg hh hb in
theorem can_is {u : ByteArray} (hu : u = tU ∨ u = tV ∨ u = tW ∨ u = tX) : perm_Can 100 (l6 g h (e6 b0 b3 b6 b9 b12 b15)) u tR b = some (canB (e6 b0 b3 b6 b9 b12 b15) ((e6 b0 b3 b6 b9 b12 b15).filter (grpE (l6 g h (e6 b0 b3 b6 b9 b12 b15)) u (d6 (e6 b0 b3 b6 b9 b12 b15)))) (decide (tU = u)) u b) :=
  can_gen (l6_file g h _) (l6_user g h _ hu) hb (e6_acl h0 h3 h6 h9 h12 h15) (by simp [e6]) (l6_groups hg hh (by simp [e6]) u) (Nat.lt_of_le_of_lt (List.length_filter_le ..) (by simp [e6]))
include h0 h3 h6 h9 h12 h15 hg hh hb in
theorem can_u : perm_Can 100 (l6 g h (e6 b0 b3 b6 b9 b12 b15)) tU tR b = some (nz b0 b) := by
  rw [can_is h0 h3 h6 h9 h12 h15 hg hh hb (.inl rfl), decide_eq_true rfl, ← bit_nz h0 hb]
  rfl
include h0 h3 h6 h9 h12 h15 hg hh hb in
theorem can_v : perm_Can 100 (l6 g h (e6 b0 b3 b6 b9 b12 b15)) tV tR b = some (nz (IntKind.i64.wrap (an b3 b12 : Int)) b) := by
  rw [can_is h0 h3 h6 h9 h12 h15 hg hh hb (.inr (.inl rfl)), and_ok h3 h12 hb, ← bit_nz h3 hb, ← bit_nz h12 hb, Bool.and_comm]
  rfl
theorem filt {p : GEntry → Bool} {l r : List GEntry} (h : l.filter p = r) {f : List GEntry → Bool} : f (l.filter p) = f r := by rw [h]
/-- Whose groups bear on whom. -/
theorem grp_g {a : List GEntry} {u : ByteArray} {x : Int} (hm : (g.any fun y => decide (u = y)) = true) : grpE (l6 g h a) u (d6 a) ⟨3, false, tE, x⟩ = true := by
  unfold grpE
  have : (l6 g h a).any (inG u tG) = true := List.any_eq_true.2 ⟨⟨2, tG, g, tE, tE, [], 0⟩, by simp [l6], by
    unfold inG
    rw [hm]
    rfl⟩
  show (!false && ((((3 : Int) == 3) && (l6 g h a).any (inG u tG)) || _)) = true
  rw [this]
  rfl
theorem grp_g0 {a : List GEntry} {u : ByteArray} {x : Int} (hm : (g.any fun y => decide (u = y)) = false) : grpE (l6 g h a) u (d6 a) ⟨3, false, tE, x⟩ = false := by
  unfold grpE
  have : (l6 g h a).any (inG u tG) = false := by
    rw [List.any_eq_false]
    intro f hf
    unfold l6 at hf
    simp only [List.cons_append, List.nil_append, List.mem_cons, List.not_mem_nil, or_false] at hf
    unfold inG
    rcases hf with rfl | rfl | rfl | rfl | rfl | rfl | rfl
    · exact Bool.false_ne_true
    · exact Bool.false_ne_true
    · exact Bool.false_ne_true
    · exact Bool.false_ne_true
    · rw [hm]
      simp
    · exact Bool.false_ne_true
    · exact Bool.false_ne_true
  show (!false && ((((3 : Int) == 3) && (l6 g h a).any (inG u tG)) || (((3 : Int) == 4) && _))) = false
  rw [this]
  rfl
theorem grp_h {a : List GEntry} {u : ByteArray} {x : Int} (hm : (h.any fun y => decide (u = y)) = true) : grpE (l6 g h a) u (d6 a) ⟨4, false, tH, x⟩ = true := by
  unfold grpE
  have : (l6 g h a).any (inG u tH) = true := List.any_eq_true.2 ⟨⟨2, tH, h, tE, tE, [], 0⟩, by simp [l6], by
    unfold inG
    rw [hm]
    rfl⟩
  show (!false && ((((4 : Int) == 3) && _) || (((4 : Int) == 4) && (l6 g h a).any (inG u tH)))) = true
  rw [this]
  rfl
theorem grp_h0 {a : List GEntry} {u : ByteArray} {x : Int} (hm : (h.any fun y => decide (u = y)) = false) : grpE (l6 g h a) u (d6 a) ⟨4, false, tH, x⟩ = false := by
  unfold grpE
  have : (l6 g h a).any (inG u tH) = false := by
    rw [List.any_eq_false]
    intro f hf
    unfold l6 at hf
    simp only [List.cons_append, List.nil_append, List.mem_cons, List.not_mem_nil, or_false] at hf
    unfold inG
    rcases hf with rfl | rfl | rfl | rfl | rfl | rfl | rfl
    · exact Bool.false_ne_true
    · exact Bool.false_ne_true
    · exact Bool.false_ne_true
    · exact Bool.false_ne_true
    · exact Bool.false_ne_true
    · rw [hm]
      simp
    · exact Bool.false_ne_true
  show (!false && ((((4 : Int) == 3) && _) || (((4 : Int) == 4) && (l6 g h a).any (inG u tH)))) = false
  rw [this]
  rfl
theorem grp_no {l : List GFile} {d : GFile} {u nm : ByteArray} {k x : Int} (hk : k = 1 ∨ k = 2 ∨ k = 5 ∨ k = 6) : grpE l u d ⟨k, false, nm, x⟩ = false := by
  unfold grpE
  rcases hk with rfl | rfl | rfl | rfl <;> rfl
/-- The entries of a user's groups. -/
theorem grps (u : ByteArray) : (e6 b0 b3 b6 b9 b12 b15).filter (grpE (l6 g h (e6 b0 b3 b6 b9 b12 b15)) u (d6 (e6 b0 b3 b6 b9 b12 b15))) = (if (g.any fun y => decide (u = y)) then [⟨3, false, tE, b6⟩] else []) ++ (if (h.any fun y => decide (u = y)) then [⟨4, false, tH, b9⟩] else []) := by
  generalize ha : e6 b0 b3 b6 b9 b12 b15 = a
  conv => lhs; arg 2; rw [← ha]
  unfold e6
  rw [List.filter_cons_of_neg (by rw [grp_no (.inl rfl)]; decide), List.filter_cons_of_neg (by rw [grp_no (.inr (.inl rfl))]; decide)]
  cases hg1 : (g.any fun y => decide (u = y)) with
  | true =>
    rw [List.filter_cons_of_pos (grp_g hg1)]
    cases hh1 : (h.any fun y => decide (u = y)) with
    | true => rw [List.filter_cons_of_pos (grp_h hh1), List.filter_cons_of_neg (by rw [grp_no (.inr (.inr (.inl rfl)))]; decide), List.filter_cons_of_neg (by rw [grp_no (.inr (.inr (.inr rfl)))]; decide)]; rfl
    | false => rw [List.filter_cons_of_neg (by rw [grp_h0 hh1]; decide), List.filter_cons_of_neg (by rw [grp_no (.inr (.inr (.inl rfl)))]; decide), List.filter_cons_of_neg (by rw [grp_no (.inr (.inr (.inr rfl)))]; decide)]; rfl
  | false =>
    rw [List.filter_cons_of_neg (by rw [grp_g0 hg1]; decide)]
    cases hh1 : (h.any fun y => decide (u = y)) with
    | true => rw [List.filter_cons_of_pos (grp_h hh1), List.filter_cons_of_neg (by rw [grp_no (.inr (.inr (.inl rfl)))]; decide), List.filter_cons_of_neg (by rw [grp_no (.inr (.inr (.inr rfl)))]; decide)]; rfl
    | false => rw [List.filter_cons_of_neg (by rw [grp_h0 hh1]; decide), List.filter_cons_of_neg (by rw [grp_no (.inr (.inr (.inl rfl)))]; decide), List.filter_cons_of_neg (by rw [grp_no (.inr (.inr (.inr rfl)))]; decide)]; rfl
/-- What those who are neither the owner nor named may. -/
def wantB (g h : Bool) (b6 b9 b12 b15 : Int) : Int := if g && h then IntKind.i64.wrap (an (orW b6 b9) b12 : Int) else if g then IntKind.i64.wrap (an b6 b12 : Int) else if h then IntKind.i64.wrap (an b9 b12 : Int) else b15
include h0 h3 h6 h9 h12 h15 hg hh hb in
theorem can_w {u : ByteArray} (hu : u = tW ∨ u = tX) : perm_Can 100 (l6 g h (e6 b0 b3 b6 b9 b12 b15)) u tR b = some (nz (wantB (g.any fun y => decide (u = y)) (h.any fun y => decide (u = y)) b6 b9 b12 b15) b) := by
  rw [can_is h0 h3 h6 h9 h12 h15 hg hh hb (.inr (.inr hu)), grps]
  have hne : decide (tU = u) = false := by rcases hu with rfl | rfl <;> rfl
  have hno : (findE (e6 b0 b3 b6 b9 b12 b15) false 2 u).2 = false := by rcases hu with rfl | rfl <;> rfl
  unfold canB
  rw [hne, if_neg (by decide), hno, if_neg (by decide), show (findE (e6 b0 b3 b6 b9 b12 b15) false 5 tE).1.bits = b12 from rfl, show (findE (e6 b0 b3 b6 b9 b12 b15) false 6 tE).1.bits = b15 from rfl, bit_nz h12 hb]
  obtain ⟨o1, o2, o3, o4⟩ := or_ok h6 h9
  have o5 : nz (orW b6 b9) b = (nz b6 b || nz b9 b) := by
    rcases hb with rfl | rfl | rfl
    · exact o2
    · exact o3
    · exact o4
  cases (g.any fun y => decide (u = y)) <;> cases (h.any fun y => decide (u = y))
  · show some (bitOn b15 b) = some (nz b15 b)
    rw [bit_nz h15 hb]
  · show some (nz b12 b && (bitOn b9 b || false)) = some (nz (IntKind.i64.wrap (an b9 b12 : Int)) b)
    rw [and_ok h9 h12 hb, bit_nz h9 hb, Bool.or_false, Bool.and_comm]
  · show some (nz b12 b && (bitOn b6 b || false)) = some (nz (IntKind.i64.wrap (an b6 b12 : Int)) b)
    rw [and_ok h6 h12 hb, bit_nz h6 hb, Bool.or_false, Bool.and_comm]
  · show some (nz b12 b && (bitOn b6 b || (bitOn b9 b || false))) = some (nz (IntKind.i64.wrap (an (orW b6 b9) b12 : Int)) b)
    rw [and_ok o1 h12 hb, o5, bit_nz h6 hb, bit_nz h9 hb, Bool.or_false, Bool.and_comm]
end
theorem may_root {l : List GFile} {u : ByteArray} {b : Int} {t : Bool} (h : perm_Can 100 l u tR b = some t) : perm_May 100 l u tR b = some t := by
  unfold perm_May
  have e : perm_May_L1 100 l u 100 tR = some (.inl ()) := by
    show perm_May_L1 100 l u (99 + 1) tR = some (.inl ())
    rw [perm_May_L1, beqS, decide_eq_true (show tR = { data := #[47] } from rfl), if_pos rfl]
  rw [h, Option.bind_some, e]
  cases t <;> rfl
theorem each_bit {l : List GFile} {u : ByteArray} {w : Int} (h : ∀ b : Int, b = 1 ∨ b = 2 ∨ b = 4 → perm_Can 100 l u tR b = some (nz w b)) : law20_PermFirst_L1 100 l u w 100 1 = some (.inl ()) := by
  have step : ∀ (c : Nat) (b : Int), b = 1 ∨ b = 2 ∨ b = 4 → law20_PermFirst_L1 100 l u w (c + 1) b = law20_PermFirst_L1 100 l u w c (IntKind.i64.wrap (2 * b)) := by
    intro c b hb
    have h1 : perm_Can 100 l u { data := #[47] } b = some (nz w b) := h b hb
    have h2 : perm_May 100 l u { data := #[47] } b = some (nz w b) := may_root (h b hb)
    rw [law20_PermFirst_L1, h1, h2, decide_eq_true (show b ≤ 4 by omega), if_pos rfl, Option.bind_some, Option.bind_some, show ((IntKind.i64.wrap (an w b : Int)) != 0) = nz w b from rfl, beq_self_eq_true, if_pos rfl, if_pos rfl]
  have h4 : law20_PermFirst_L1 100 l u w (96 + 1 + 1 + 1 + 1) 1 = some (.inl ()) := by
    rw [step _ 1 (.inl rfl), show IntKind.i64.wrap (2 * 1) = 2 from rfl, step _ 2 (.inr (.inl rfl)), show IntKind.i64.wrap (2 * 2) = 4 from rfl, step _ 4 (.inr (.inr rfl)), show IntKind.i64.wrap (2 * 4) = 8 from rfl]
    rfl
  exact h4
theorem who4 (t : Int) : ∃ x, idx [({ data := #[117] } : ByteArray), { data := #[118] }, { data := #[119] }, { data := #[120] }] (IntKind.i64.wrap (an t 3 : Int)) = some x ∧ (x = tU ∨ x = tV ∨ x = tW ∨ x = tX) := by
  have h1 : an t 3 ≤ 3 := by
    have := an_le t 3
    rwa [show (BitVec.ofInt 64 3).toNat = 3 from rfl] at this
  rw [wrap_an t 3 (by decide)]
  have h4 : an t 3 = 0 ∨ an t 3 = 1 ∨ an t 3 = 2 ∨ an t 3 = 3 := by omega
  rcases h4 with e | e | e | e <;> rw [e]
  · exact ⟨_, rfl, .inl rfl⟩
  · exact ⟨_, rfl, .inr (.inl rfl)⟩
  · exact ⟨_, rfl, .inr (.inr (.inl rfl))⟩
  · exact ⟨_, rfl, .inr (.inr (.inr rfl))⟩
theorem law_permFirst (t0 t1 : Int) : law20_PermFirst 100 t0 t1 = some true := by
  have c0 : law20_PermFirst_c1 100 0 t0 = some (IntKind.i64.wrap (an (sh t0 0) 7 : Int)) := rfl
  have c3 : law20_PermFirst_c1 100 3 t0 = some (IntKind.i64.wrap (an (sh t0 3) 7 : Int)) := rfl
  have c6 : law20_PermFirst_c1 100 6 t0 = some (IntKind.i64.wrap (an (sh t0 6) 7 : Int)) := rfl
  have c9 : law20_PermFirst_c1 100 9 t0 = some (IntKind.i64.wrap (an (sh t0 9) 7 : Int)) := rfl
  have c12 : law20_PermFirst_c1 100 12 t0 = some (IntKind.i64.wrap (an (sh t0 12) 7 : Int)) := rfl
  have c15 : law20_PermFirst_c1 100 15 t0 = some (IntKind.i64.wrap (an (sh t0 15) 7 : Int)) := rfl
  obtain ⟨x2, e2, hx⟩ := who4 t1
  have h0 := an7 (sh t0 0)
  have h3 := an7 (sh t0 3)
  have h6 := an7 (sh t0 6)
  have h9 := an7 (sh t0 9)
  have h12 := an7 (sh t0 12)
  have h15 := an7 (sh t0 15)
  unfold law20_PermFirst
  rw [c0, Option.bind_some, c3, Option.bind_some, c6, Option.bind_some, c9, Option.bind_some, c12, Option.bind_some, c15, Option.bind_some, e2]
  simp only [Option.bind_some, beqS]
  generalize IntKind.i64.wrap (an (sh t0 0) 7 : Int) = b0 at h0 ⊢
  generalize IntKind.i64.wrap (an (sh t0 3) 7 : Int) = b3 at h3 ⊢
  generalize IntKind.i64.wrap (an (sh t0 6) 7 : Int) = b6 at h6 ⊢
  generalize IntKind.i64.wrap (an (sh t0 9) 7 : Int) = b9 at h9 ⊢
  generalize IntKind.i64.wrap (an (sh t0 12) 7 : Int) = b12 at h12 ⊢
  generalize IntKind.i64.wrap (an (sh t0 15) 7 : Int) = b15 at h15 ⊢
  have key : ∀ (g h : List ByteArray) (w : Int) (u : ByteArray), (∀ b : Int, b = 1 ∨ b = 2 ∨ b = 4 → perm_Can 100 (l6 g h (e6 b0 b3 b6 b9 b12 b15)) u tR b = some (nz w b)) → ((law20_PermFirst_L1 100 (l6 g h (e6 b0 b3 b6 b9 b12 b15)) u w 100 1 : Option ((Unit) ⊕ Bool)).bind fun | .inl _ => (perm_Can 100 (l6 g h (e6 b0 b3 b6 b9 b12 b15)) { data := #[121] } { data := #[47] } 4).bind fun t144 => (if t144 then some false else (law20_awake 100).bind fun t147 => some t147) | .inr r => some r) = some true := by
    intro g h w u hc
    have hn : perm_Can 100 (l6 g h (e6 b0 b3 b6 b9 b12 b15)) { data := #[121] } { data := #[47] } 4 = some false := can_no
    rw [each_bit hc, Option.bind_some]
    dsimp only
    rw [hn]
    rfl
  have U := fun (g h : List ByteArray) (hg : g.length < 100) (hh : h.length < 100) => key g h b0 tU fun b hb => can_u h0 h3 h6 h9 h12 h15 hg hh hb
  have V := fun (g h : List ByteArray) (hg : g.length < 100) (hh : h.length < 100) => key g h (IntKind.i64.wrap (an b3 b12 : Int)) tV fun b hb => can_v h0 h3 h6 h9 h12 h15 hg hh hb
  have W := fun (g h : List ByteArray) (hg : g.length < 100) (hh : h.length < 100) => key g h (wantB (g.any fun y => decide (tW = y)) (h.any fun y => decide (tW = y)) b6 b9 b12 b15) tW fun b hb => can_w h0 h3 h6 h9 h12 h15 hg hh hb (.inl rfl)
  have X := fun (g h : List ByteArray) (hg : g.length < 100) (hh : h.length < 100) => key g h (wantB (g.any fun y => decide (tX = y)) (h.any fun y => decide (tX = y)) b6 b9 b12 b15) tX fun b hb => can_w h0 h3 h6 h9 h12 h15 hg hh hb (.inr rfl)
  cases (IntKind.i64.wrap (an (sh t0 18) 1 : Int) == 1) <;> cases (IntKind.i64.wrap (an (sh t0 19) 1 : Int) == 1)
  · rcases hx with rfl | rfl | rfl | rfl
    · exact U [] [] (by decide) (by decide)
    · exact V [] [] (by decide) (by decide)
    · exact W [] [] (by decide) (by decide)
    · exact X [] [] (by decide) (by decide)
  · rcases hx with rfl | rfl | rfl | rfl
    · exact U [] [tW, tU] (by decide) (by decide)
    · exact V [] [tW, tU] (by decide) (by decide)
    · exact W [] [tW, tU] (by decide) (by decide)
    · exact X [] [tW, tU] (by decide) (by decide)
  · rcases hx with rfl | rfl | rfl | rfl
    · exact U [tU, tV, tW] [] (by decide) (by decide)
    · exact V [tU, tV, tW] [] (by decide) (by decide)
    · exact W [tU, tV, tW] [] (by decide) (by decide)
    · exact X [tU, tV, tW] [] (by decide) (by decide)
  · rcases hx with rfl | rfl | rfl | rfl
    · exact U [tU, tV, tW] [tW, tU] (by decide) (by decide)
    · exact V [tU, tV, tW] [tW, tU] (by decide) (by decide)
    · exact W [tU, tV, tW] [tW, tU] (by decide) (by decide)
    · exact X [tU, tV, tW] [tW, tU] (by decide) (by decide)
theorem law_permFirst_ex (a0 a1 : Int) (_ : (Lit.int .i64 a0).wf = true) (_ : (Lit.int .i64 a1).wf = true) : ∃ n, law20_PermFirst n a0 a1 = some true := ⟨100, law_permFirst a0 a1⟩
end Go.Proofs.YthnejfmbglbpgaaDoor.Ab
