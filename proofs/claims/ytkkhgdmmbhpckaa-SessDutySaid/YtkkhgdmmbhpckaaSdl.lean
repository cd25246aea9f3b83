/-
  SessDuty: the law. No program in sight.
-/
import Derived.Test.YtkkhgdmmbhpckaaSda
import Derived.Test.YtkkhgdmmbhpckaaPz
import Derived.Test.YtkkhgdmmbhpckaaVm
namespace Go.Proofs.Ytkkhgdmmbhpckaa.Ab
open Go.RowKit
theorem many2 {n : Nat} {a b : List ByteArray} {i : Nat} (hi : i < a.length) (hb : b.length < 1000000) : ∀ (c k v : Nat), k ≤ b.length → b.length - k < c → v + (b.length - k) < 4611686018427387904 →
    law15_SessDuty_c1_L2 n a b (i : Int) c ((v : Int), (k : Int)) = some (((v + (b.drop k).countP fun y => decide (a[i] = y) : Nat)) : Int)
  | 0, _, _, _, h, _ => by omega
  | c + 1, k, v, hk, hc, hv => by
    rw [law15_SessDuty_c1_L2]
    by_cases h : k < b.length
    · rw [dlt h, if_pos rfl, idxS hi, Option.bind_some, idxS h, Option.bind_some, beqS, wr1 (k := k) (by omega), List.drop_eq_getElem_cons h]
      by_cases e : a[i] = b[k]
      · rw [decide_eq_true e, if_pos rfl, wr1 (k := v) (by omega), many2 hi hb c (k + 1) (v + 1) (by omega) (by omega) (by omega), List.countP_cons_of_pos (by simp [e])]
        congr 2
        omega
      · rw [decide_eq_false e, if_neg (by decide), many2 hi hb c (k + 1) v (by omega) (by omega) (by omega), List.countP_cons_of_neg (by simp [e])]
    · rw [dnlt (by omega), if_neg (by decide), List.drop_eq_nil_of_le (by omega)]
      simp
theorem many1 {n : Nat} {a b : List ByteArray} (hn : b.length < n) (ha : a.length < 1000000) (hb : b.length < 1000000) : ∀ (c i v : Nat), i ≤ a.length → a.length - i < c → v + (a.length - i) * b.length < 4611686018427387904 →
    law15_SessDuty_c1_L1 n a b c ((v : Int), (i : Int)) = some ((v + pairsN (a.drop i) b : Nat) : Int)
  | 0, _, _, _, h, _ => by omega
  | c + 1, i, v, hi, hc, hv => by
    rw [law15_SessDuty_c1_L1]
    by_cases h : i < a.length
    · have hm : (a.length - i) * b.length = (a.length - (i + 1)) * b.length + b.length := by
        rw [show a.length - i = a.length - (i + 1) + 1 by omega, Nat.add_mul, Nat.one_mul]
      have e2 : law15_SessDuty_c1_L2 n a b (i : Int) n ((v : Int), 0) = _ := many2 h hb n 0 v (Nat.zero_le _) (by omega) (by omega)
      have hle := List.countP_le_length (p := fun y => decide (a[i] = y)) (l := b)
      rw [dlt h, if_pos rfl, e2, Option.bind_some, wr1 (by omega), List.drop_zero, many1 hn ha hb c (i + 1) _ (by omega) (by omega) (by omega), List.drop_eq_getElem_cons h, pairsN_cons]
      congr 2
      omega
    · rw [dnlt (by omega), if_neg (by decide), List.drop_eq_nil_of_le (by omega)]
      rfl
theorem many_some {n : Nat} {a b : List ByteArray} (hn : 1000000 ≤ n) (ha : a.length ≤ 200000) (hb : b.length ≤ 200000) (hs : tx.Rises b) : law15_SessDuty_c1 n a b = some (((a.countP fun x => decide (x ∈ b)) : Nat) : Int) := by
  have hmul : a.length * b.length ≤ 200000 * 200000 := Nat.mul_le_mul ha hb
  have e : law15_SessDuty_c1_L1 n a b n (0, 0) = _ := many1 (n := n) (a := a) (b := b) (by omega) (by omega) (by omega) n 0 0 (Nat.zero_le _) (by omega) (by simp only [Nat.sub_zero]; omega)
  unfold law15_SessDuty_c1
  rw [e, Option.bind_some, Nat.zero_add, List.drop_zero, pairsN_eq (tx.nodup hs)]
  exact congrArg (fun k : Nat => some (k : Int)) (List.countP_congr fun x _ => by simp)
/-- So many of a separation's roles. -/
theorem many_cnt {n : Nat} {l r : List ByteArray} {Q : ByteArray → Prop} (hn : 1000000 ≤ n) (hl : l.length ≤ 100000) (hr : r.length ≤ 104000) (hs : tx.Rises r) (hQ : ∀ y, y ∈ r ↔ Q y) : ref1_Texts n l = some (tx.ofL l) ∧ law15_SessDuty_c1 n (tx.ofL l) r = some ((cntP l Q : Nat) : Int) := by
  have hlen := ofL_len tx l
  refine ⟨texts_some n l (by omega) (by omega), ?_⟩
  rw [many_some hn (by omega) (by omega) hs, cntP_of hQ]
section
variable {n : Nat} {p : GRoles} (hn : 1000000 ≤ n)
include hn in
theorem duty2 {r : List ByteArray} {Q : ByteArray → Prop} (hr : r.length ≤ 104000) (hs : tx.Rises r) (hQ : ∀ y, y ∈ r ↔ Q y) : ∀ xs : List GSod, (∀ x ∈ xs, x.roles.length ≤ 100000) → (∀ x ∈ xs, ((cntP x.roles Q : Nat) : Int) < x.n_) → foldK (law15_SessDuty_L2_f n p r) (law15_SessDuty_L2_e n p r) xs () = some (.inl ())
  | [], _, _ => rfl
  | x :: xs, h, h2 => by
    obtain ⟨e1, e2⟩ := many_cnt hn (h x (List.mem_cons_self ..)) hr hs hQ
    have := h2 x (List.mem_cons_self ..)
    rw [foldK]
    unfold law15_SessDuty_L2_f
    dsimp only
    rw [e1, Option.bind_some, e2, Option.bind_some, show decide (x.n_ ≤ ((cntP x.roles Q : Nat) : Int)) = false from decide_eq_false (by omega), if_neg (by decide)]
    exact duty2 hr hs hQ xs (fun y hy => h y (List.mem_cons_of_mem _ hy)) fun y hy => h2 y (List.mem_cons_of_mem _ hy)
include hn in
theorem duty4 {r : List ByteArray} {Q : ByteArray → Prop} (hr : r.length ≤ 104000) (hs : tx.Rises r) (hQ : ∀ y, y ∈ r ↔ Q y) : ∀ xs : List GSod, (∀ x ∈ xs, x.roles.length ≤ 100000) → (∀ x ∈ xs, ((cntP x.roles Q : Nat) : Int) < x.n_) → foldK (law15_SessDuty_L4_f n p r) (law15_SessDuty_L4_e n p r) xs () = some (.inl ())
  | [], _, _ => rfl
  | x :: xs, h, h2 => by
    obtain ⟨e1, e2⟩ := many_cnt hn (h x (List.mem_cons_self ..)) hr hs hQ
    have := h2 x (List.mem_cons_self ..)
    rw [foldK]
    unfold law15_SessDuty_L4_f
    dsimp only
    rw [e1, Option.bind_some, e2, Option.bind_some, show decide (x.n_ ≤ ((cntP x.roles Q : Nat) : Int)) = false from decide_eq_false (by omega), if_neg (by decide)]
    exact duty4 hr hs hQ xs (fun y hy => h y (List.mem_cons_of_mem _ hy)) fun y hy => h2 y (List.mem_cons_of_mem _ hy)
variable (hf : Few p) (hss : p.ssd.length ≤ 100000) (hsr : ∀ x ∈ p.ssd, x.roles.length ≤ 100000) (hds : p.dsd.length ≤ 100000) (hdr : ∀ x ∈ p.dsd, x.roles.length ≤ 100000)
include hn hf hss hsr in
theorem duty1 : ∀ xs : List ByteArray, (∀ u ∈ xs, ∀ d ∈ p.ssd, ((cntP d.roles (RolP p u) : Nat) : Int) < d.n_) → foldK (law15_SessDuty_L1_f n p) (law15_SessDuty_L1_e n p) xs () = some (.inl ())
  | [], _ => rfl
  | u :: xs, h => by
    obtain ⟨r, e, h1, h2, h3⟩ := roles_some (n := n) (by omega) hf u
    have hL : law15_SessDuty_L2 n p r n 0 = _ := law15_SessDuty_L2_list n p r (by omega) n () 0 (Nat.zero_le _) (by omega)
    rw [foldK]
    unfold law15_SessDuty_L1_f
    dsimp only
    rw [e, Option.bind_some, hL, List.drop_zero, duty2 hn h3 h1 h2 p.ssd hsr (h u (List.mem_cons_self ..)), Option.bind_some]
    exact duty1 xs fun y hy => h y (List.mem_cons_of_mem _ hy)
include hn hf hds hdr in
theorem duty3 : ∀ xs : List GSession, (∀ x ∈ xs, (∀ y, ActP p x.name y → RolP p x.user y) ∧ ∀ d ∈ p.dsd, ((cntP d.roles (ActP p x.name) : Nat) : Int) < d.n_) → foldK (law15_SessDuty_L3_f n p) (law15_SessDuty_L3_e n p) xs () = some (.inl ())
  | [], _ => rfl
  | x :: xs, h => by
    obtain ⟨k1, k2⟩ := h x (List.mem_cons_self ..)
    obtain ⟨a, e, h1, h2, h3⟩ := active_some (n := n) (by omega) hf x.name
    obtain ⟨r, f, g1, g2, g3⟩ := roles_some (n := n) (by omega) hf x.user
    have hL : law15_SessDuty_L4 n p a n 0 = _ := law15_SessDuty_L4_list n p a (by omega) n () 0 (Nat.zero_le _) (by omega)
    have hall : (a.countP fun y => decide (y ∈ r)) = a.length := List.countP_eq_length.2 fun y hy => decide_eq_true ((g2 y).2 (k1 y ((h2 y).1 hy)))
    rw [foldK]
    unfold law15_SessDuty_L3_f
    dsimp only
    rw [e, Option.bind_some, f, Option.bind_some, many_some hn (by omega) (by omega) g1, Option.bind_some, hall, show ((a.length : Int) != (a.length : Int)) = false by simp, if_neg (by decide), hL, List.drop_zero, duty4 hn h3 h1 h2 p.dsd hdr k2, Option.bind_some]
    exact duty3 xs fun y hy => h y (List.mem_cons_of_mem _ hy)
end
theorem two_sessions {l : List GFact} (h : ValidF l) {f g : GFact} (hf : f ∈ l) (hg : g ∈ l) (k1 : f.kind = 8) (k2 : g.kind = 8) (e : f.a = g.a) : f.b = g.b ∧ tx.ofL f.l = tx.ofL g.l := by
  obtain ⟨i, hi, rfl⟩ := List.getElem_of_mem hf
  obtain ⟨j, hj, rfl⟩ := List.getElem_of_mem hg
  have key : ∀ (i j : Nat) (hi : i < l.length) (hj : j < l.length), i < j → l[i].kind = 8 → l[j].kind = 8 → l[i].a = l[j].a → l[i].b = l[j].b ∧ tx.ofL l[i].l = tx.ofL l[j].l := by
    intro i j hi hj hlt k1 k2 e
    have hno := (h.one j hj).2.1 l[i] (List.mem_iff_getElem.2 ⟨i, by rw [List.length_take]; omega, List.getElem_take ..⟩)
    refine Classical.byContradiction fun hc => hno ⟨by rw [k1, k2], e, by omega, by omega, fun h3 => hc ⟨h3.2.1, h3.2.2⟩⟩
  rcases Nat.lt_trichotomy i j with hlt | he | hgt
  · exact key i j hi hj hlt k1 k2 e
  · subst he
    exact ⟨rfl, rfl⟩
  · obtain ⟨h1, h2⟩ := key j i hj hi hgt k2 k1 e.symm
    exact ⟨h1.symm, h2.symm⟩
/-- What a session has active its user has. -/
theorem active_has {l : List GFact} (h : ValidF l) {x : GSession} (hx : x ∈ sesF l) {y : ByteArray} (hy : ActP (ofF l) x.name y) : RolP (ofF l) x.user y := by
  obtain ⟨z, h1, r, h2, h3⟩ := hy
  have hz : z ∈ sesF l := List.mem_of_find?_eq_some h1
  have hn : z.name = x.name := by
    have := List.find?_some h1
    exact of_decide_eq_true this
  obtain ⟨f, f1, f2, rfl⟩ := mem_sesF.1 hx
  obtain ⟨g, g1, g2, rfl⟩ := mem_sesF.1 hz
  obtain ⟨e1, _⟩ := two_sessions h g1 f1 g2 f2 hn
  obtain ⟨k1, s, k2, k3⟩ := (h.sess g g1 g2).1 r h2
  rw [show (⟨f.a, f.b, f.l⟩ : GSession).user = g.b from e1.symm]
  exact ⟨k1, s, k2, k3.trans h3⟩
theorem law_duty {n : Nat} (hn : 1000000 ≤ n) (t0 : List Int) : law15_SessDuty n t0 = some true := by
  obtain ⟨s, f, a, e, e1, e2, hl, hx⟩ := made_tot (n := n) (by omega) t0
  have hx2 : ∀ x ∈ f, x.l.length ≤ 100000 := fun x h => by have := hx x h; omega
  have aw : law15_awake n = some true := rfl
  unfold law15_SessDuty
  rw [e1, Option.bind_some, e2, Option.bind_some]
  dsimp only
  by_cases h0 : e = 0
  · obtain ⟨a2, g, v1, v2, _⟩ := valid_some (n := n) (by omega) (l := f) (by omega) hx2
    rw [show (e != 0) = false by simp [h0], if_neg (by decide), v1, Option.bind_some]
    dsimp only
    by_cases h1 : g = 0
    · have hv := v2.1 h1
      have hf := few_ofF (l := f) (by omega) hx2
      have hu : (usersF f).length ≤ 2000 := Nat.le_trans (fm_len _ _) hl
      have hs : (sesF f).length ≤ 2000 := Nat.le_trans (fm_len _ _) hl
      have hss : (ofF f).ssd.length ≤ 100000 := Nat.le_trans (fm_len _ _) (by omega)
      have hds : (ofF f).dsd.length ≤ 100000 := Nat.le_trans (fm_len _ _) (by omega)
      have hsr : ∀ x ∈ (ofF f).ssd, x.roles.length ≤ 100000 := fun d h => by
        obtain ⟨x, h1, _, rfl⟩ := mem_ssdF.1 h
        exact hx2 x h1
      have hdr : ∀ x ∈ (ofF f).dsd, x.roles.length ≤ 100000 := fun d h => by
        obtain ⟨x, h1, _, rfl⟩ := mem_dsdF.1 h
        exact hx2 x h1
      have hL1 : law15_SessDuty_L1 n (ofF f) n 0 = _ := law15_SessDuty_L1_list n (ofF f) (by show (usersF f).length < _; omega) n () 0 (Nat.zero_le _) (by show (usersF f).length - 0 < _; omega)
      have hL3 : law15_SessDuty_L3 n (ofF f) n 0 = _ := law15_SessDuty_L3_list n (ofF f) (by show (sesF f).length < _; omega) n () 0 (Nat.zero_le _) (by show (sesF f).length - 0 < _; omega)
      rw [show (g != 0) = false by simp [h1], if_neg (by decide), ofD_some (by omega) (by omega) fun x h => by have := hx x h; omega, Option.bind_some, hL1, List.drop_zero, duty1 hn hf hss hsr (ofF f).users fun u hu d hd => ?_, Option.bind_some]
      · dsimp only
        rw [hL3, List.drop_zero, duty3 hn hf hds hdr (ofF f).sessions fun x hx => ⟨fun y hy => active_has hv hx hy, fun d hd => ?_⟩, Option.bind_some]
        · dsimp only
          rw [aw]
          rfl
        · obtain ⟨q, q1, q2, rfl⟩ := mem_sesF.1 hx
          exact (hv.sess q q1 q2).2 d hd
      · obtain ⟨q, q1, q2, rfl⟩ := mem_ssdF.1 hd
        exact hv.stat q q1 q2 u hu
    · rw [show (g != 0) = true by simp [h1], if_pos rfl, aw]
      rfl
  · rw [show (e != 0) = true by simp [h0], if_pos rfl, aw]
    rfl
theorem law_duty_ex (a0 : List Int) (_ : a0.length ≤ maxLen ∧ ∀ y ∈ a0, (Lit.int .i64 y).wf = true) : ∃ n, law15_SessDuty n a0 = some true := ⟨1000000, law_duty (Nat.le_refl _) a0⟩
end Go.Proofs.Ytkkhgdmmbhpckaa.Ab
