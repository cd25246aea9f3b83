/-
  The document's facts of whatever text: they are there, and they are such as may be. No program in sight.
-/
import Derived.Test.YtgmhbmcdlkajdaaGreatDoorLnt
import Derived.Test.YtgmhbmcdlkajdaaGreatDoorBsy
namespace Go.Proofs.YtgmhbmcdlkajdaaGreatDoor.Ab
open Go.RowKit
theorem or_all2 : ∀ i j : Fin 8, 0 ≤ or2 i.1 j.1 ∧ or2 i.1 j.1 ≤ 7 := by decide
theorem or2_8 {a b : Int} (ha : 0 ≤ a ∧ a ≤ 7) (hb : 0 ≤ b ∧ b ≤ 7) : 0 ≤ or2 a b ∧ or2 a b ≤ 7 := by
  have := or_all2 ⟨a.toNat, by omega⟩ ⟨b.toNat, by omega⟩
  rwa [show ((a.toNat : Nat) : Int) = a by omega, show ((b.toNat : Nat) : Int) = b by omega] at this
theorem ebits_loop {n : Nat} {s : ByteArray} (hs : 6 ≤ s.size) (hs2 : s.size < 1000000) : ∀ (c i : Nat) (v : Int), i ≤ 3 → 3 - i < c → (0 ≤ v ∧ v ≤ 7) → Tot (ref17_entry_L1 n s c (v, (i : Int))) fun r => match r with | .inl v => 0 ≤ v ∧ v ≤ 7 | .inr r => r.2 = false
  | 0, _, _, _, h, _ => by omega
  | c + 1, i, v, hi, hc, hv => by
    rw [ref17_entry_L1]
    by_cases h : i < 3
    · have hu : IntKind.u64.wrap (i : Int) = i := IntWalk.u64_in _ (by omega)
      have hz : (ByteArray.mk #[114, 119, 120]).size = 3 := rfl
      rw [show decide ((i : Int) < 3) = true from decide_eq_true (by omega), if_pos rfl, wr (x := (s.size : Int) - 3) (by omega) (by omega), wr (x := (s.size : Int) - 3 + (i : Int)) (by omega) (by omega), wr1 (by omega), hu]
      refine tot_bind (tot_bidx (by omega) (by omega)) fun ch _ => ?_
      refine tot_bind (Q := fun _ => True) (tot_ite (fun _ => tot_bind (tot_bidx (by omega) (by omega)) fun _ _ => tot_some trivial) fun _ => tot_some trivial) fun b _ => ?_
      refine tot_ite (fun _ => tot_some rfl) fun _ => ?_
      refine tot_ite (fun _ => ?_) fun _ => ?_
      · rw [grd_t (decide_eq_true (by omega)), Int.toNat_natCast]
        have hb : 0 ≤ sh 4 i ∧ sh 4 i ≤ 7 := by
          have : i = 0 ∨ i = 1 ∨ i = 2 := by omega
          rcases this with rfl | rfl | rfl <;> decide
        exact ebits_loop hs hs2 c (i + 1) _ (by omega) (by omega) (or2_8 hv hb)
      · exact ebits_loop hs hs2 c (i + 1) _ (by omega) (by omega) hv
    · rw [show decide ((i : Int) < 3) = false from decide_eq_false (by omega), if_neg (by decide)]
      exact tot_some hv
theorem entry_tot {n : Nat} {s : ByteArray} (hs : s.size < 1000000) (hn : s.size + 10 < n) : Tot (ref17_entry n s) fun r => r.2 = true → textOK r.1 = true := by
  unfold ref17_entry
  refine tot_bind (Q := fun b => b = true → 2 ≤ s.size) (tot_ite (fun h => ?_) fun _ => tot_some fun h => by cases h) fun b hb => ?_
  · have h := of_decide_eq_true h
    rw [show (0 : Int) = ((0 : Nat) : Int) from rfl, show (2 : Int) = ((2 : Nat) : Int) from rfl, bslcS (by omega) (by omega), Zo]
    exact tot_some fun _ => by omega
  refine tot_bind (Q := fun p => p.1.size ≤ s.size) (tot_ite (fun h => ?_) fun _ => tot_some (Nat.le_refl _)) fun ⟨t, d⟩ ht => ?_
  · have h2 := hb h
    rw [show (2 : Int) = ((2 : Nat) : Int) from rfl, bslcS (by omega) (Nat.le_refl _), Zo]
    refine tot_some ?_
    show (s.extract 2 s.size).size ≤ _
    rw [ext_size s (Nat.le_refl _)]
    omega
  dsimp only at ht ⊢
  refine tot_bind (Q := fun b => b = false → 6 ≤ t.size) (tot_ite (fun _ => tot_some fun h => by cases h) fun h => ?_) fun b hb2 => ?_
  · have h := of_decide_eq_false h
    refine tot_bind (tot_bidx (by omega) (by omega)) fun _ _ => tot_ite (fun _ => tot_some fun h => by cases h) fun _ => ?_
    rw [wr (by omega) (by omega)]
    exact tot_bind (tot_bidx (by omega) (by omega)) fun _ _ => tot_some fun _ => by omega
  refine tot_ite (fun _ => tot_some fun h => by cases h) fun h => ?_
  have h6 := hb2 h
  refine tot_bind (Q := fun w => w.size ≤ s.size) (tot_ite (fun h => ?_) fun _ => tot_some (by simp)) fun w hw => ?_
  · have h := of_decide_eq_true h
    rw [wr (by omega) (by omega), show (2 : Int) = ((2 : Nat) : Int) from rfl, show ((t.size : Int) - 4) = ((t.size - 4 : Nat) : Int) by omega, bslcS (by omega) (by omega), Zo]
    refine tot_some ?_
    rw [ext_size t (by omega)]
    omega
  rw [emptyB]
  generalize he : decide (w.size = 0) = e
  refine tot_bind (Q := fun k : Int => k = 0 ∨ (e = true ∧ (k = 1 ∨ k = 3 ∨ k = 5 ∨ k = 6)) ∨ (e = false ∧ (k = 2 ∨ k = 4))) ?_ fun k hk => ?_
  · obtain ⟨ch, hc⟩ : ∃ ch, bidx t 0 = some ch := by
      obtain ⟨ch, h, _⟩ := tot_bidx (s := t) (i := 0) (by omega) (by omega)
      exact ⟨ch, h⟩
    rw [hc, Zo, Zo, Zo, Zo]
    generalize (ch == 117) = c1
    generalize (ch == 103) = c2
    generalize (ch == 109) = c3
    generalize (ch == 111) = c4
    cases c1 <;> cases c2 <;> cases c3 <;> cases c4 <;> cases e <;> exact tot_some (by decide)
  have hbits : Tot (ref17_entry_L1 n t n (0, 0)) _ := ebits_loop (n := n) (s := t) h6 (by omega) n 0 0 (by omega) (by omega) (by decide)
  refine tot_bind hbits fun r hr => ?_
  cases r with
  | inr r => exact tot_some fun h => by rw [hr] at h; cases h
  | inl v =>
    refine tot_ite (fun hk0 => ?_) fun _ => tot_some fun h => by cases h
    have hk0 := of_decide_eq_true hk0
    have hz : ((t.size : Int) != 5) = true := bne_iff_ne.2 (by omega)
    cases e with
    | true =>
      rw [if_pos rfl]
      refine tot_some fun _ => ?_
      have hw0 := of_decide_eq_true he
      rcases hk with h | ⟨_, h⟩ | ⟨h, _⟩
      · omega
      · unfold textOK namedE
        dsimp only
        have hb1 : decide (0 ≤ v) = true := decide_eq_true hr.1
        have hb2 : decide (v ≤ 7) = true := decide_eq_true hr.2
        rw [hb1, hb2, decide_eq_true hw0]
        rcases h with rfl | rfl | rfl | rfl <;> rfl
      · cases h
    | false =>
      rw [if_neg (by decide), refName_some _ (by omega) (by omega), Zo]
      refine tot_ite (fun hn2 => tot_some fun _ => ?_) fun _ => tot_some fun h => by cases h
      rcases hk with h | ⟨h, _⟩ | ⟨_, h⟩
      · omega
      · cases h
      · unfold textOK namedE
        dsimp only
        have hb1 : decide (0 ≤ v) = true := decide_eq_true hr.1
        have hb2 : decide (v ≤ 7) = true := decide_eq_true hr.2
        rw [hb1, hb2, hn2]
        rcases h with rfl | rfl <;> rfl
theorem entries_loop {n : Nat} {s : ByteArray} (hs : s.size < 1000000) (hn : s.size + 10 < n) : ∀ (c i : Nat) (out : List GEntry), i ≤ s.size + 1 → s.size + 1 - i < c → out.length ≤ 100 → (∀ x ∈ out, textOK x = true) → Tot (ref17_Entries_L1 n s c (out, (i : Int))) fun r => match r with | .inl o => o.length ≤ 100 ∧ ∀ x ∈ o, textOK x = true | .inr r => r = ([], false)
  | 0, _, _, _, h, _, _ => by omega
  | c + 1, i, out, hi, hc, ho, ha => by
    rw [ref17_Entries_L1]
    by_cases h : i ≤ s.size
    · have hf := find1_some (n := n) (s := s) (b := 44) (k := i) (by omega) h (by omega)
      obtain ⟨k, hk, hki, hks⟩ : ∃ k : Nat, ((ref1_Find n s 44 (i : Int)).bind fun t152 => ((if (decide (t152 < 0)) then some (s.size : Int) else some t152) : Option Int)) = some (k : Int) ∧ i ≤ k ∧ k ≤ s.size := by
        rw [show ref1_Find n s 44 (i : Int) = _ from hf, Zo]
        rcases ib_cases (s.data.toList.drop i) 44 with h1 | ⟨o, h1⟩
        · rw [if_pos h1, if_pos (show decide ((-1 : Int) < 0) = true from rfl)]
          exact ⟨s.size, rfl, h, Nat.le_refl _⟩
        · have := (ib_some h1).1
          rw [List.length_drop, bsize] at this
          have ho1 : ¬ (o : Int) = -1 := by omega
          have hd1 : decide ((i : Int) + (o : Int) < 0) = false := decide_eq_false (by omega)
          rw [h1]
          simp only [ho1, if_false, hd1, Bool.false_eq_true]
          exact ⟨i + o, by congr 1, by omega, by omega⟩
      have assoc : ∀ (f : Int → Option (List GEntry ⊕ List GEntry × Bool)), ((ref1_Find n s 44 (i : Int)).bind fun t152 => ((if (decide (t152 < 0)) then some (s.size : Int) else some t152) : Option Int).bind f) = f (k : Int) := fun f => by
        rw [← Option.bind_assoc, hk]
        rfl
      rw [show decide ((i : Int) ≤ (s.size : Int)) = true from decide_eq_true (by omega), if_pos rfl, assoc, bslcS hki hks, Zo, wr1 (by omega)]
      have hz : (s.extract i k).size ≤ s.size := by rw [ext_size s hks]; omega
      refine tot_bind (entry_tot (n := n) (s := s.extract i k) (by omega) (by omega)) fun ⟨e, ok⟩ he => ?_
      dsimp only
      refine tot_ite (fun hok => ?_) fun _ => tot_some rfl
      refine tot_ite (fun _ => tot_some rfl) fun h100 => ?_
      have h100 : out.length ≠ 100 := fun e => by rw [e] at h100; cases h100
      rw [appS (by simp; omega), Zo]
      refine entries_loop hs hn c (k + 1) _ (by omega) (by omega) (by simp; omega) fun x hx => ?_
      rcases List.mem_append.1 hx with hx | hx
      · exact ha x hx
      · rw [List.mem_singleton.1 hx]
        exact he hok
    · rw [show decide ((i : Int) ≤ (s.size : Int)) = false from decide_eq_false (by omega), if_neg (by decide)]
      exact tot_some ⟨ho, ha⟩
theorem entries_tot {n : Nat} {s : ByteArray} (hs : s.size < 1000000) (hn : s.size + 10 < n) : Tot (ref17_Entries n s) fun r => r.1.length ≤ 100 ∧ ∀ x ∈ r.1, textOK x = true := by
  unfold ref17_Entries
  have h : Tot (ref17_Entries_L1 n s n ([], 0)) _ := entries_loop hs hn n 0 [] (by omega) (by omega) (by simp) (by simp)
  refine tot_bind h fun r hr => ?_
  cases r with
  | inl o => exact tot_some hr
  | inr r => rw [hr]; exact tot_some ⟨by simp, by simp⟩
def goodF (f : GFile) : Prop := (1 ≤ f.kind ∧ f.kind ≤ 4) ∧ (3 ≤ f.kind → pathL f.name.data.toList = true) ∧ (∀ e ∈ f.acl, textOK e = true) ∧ f.acl.length ≤ 100 ∧ f.users.length ≤ 6000 ∧ f.name.size ≤ 6000
theorem kind_tot {n : Nat} {t : GLine} (h0 : 0 < t.words.length) : ∀ (c i : Nat) (v : Int), i ≤ 5 → 5 - i < c → (0 ≤ v ∧ v ≤ 4) → Tot (ref17_Fact_L1 n t c (v, (i : Int))) fun k => 0 ≤ k ∧ k ≤ 4
  | 0, _, _, _, h, _ => by omega
  | c + 1, i, v, hi, hc, hv => by
    by_cases h : i < 5
    · obtain ⟨x, hx⟩ : ∃ x, idx t.words 0 = some x := ⟨_, idxS (k := 0) h0⟩
      rw [kind_step hx c i v h]
      refine kind_tot h0 c (i + 1) _ (by omega) (by omega) ?_
      split <;> omega
    · rw [ref17_Fact_L1, show decide ((i : Int) < 5) = false from decide_eq_false (by omega), if_neg (by decide)]
      exact tot_some hv
theorem words2_tot {n m : Nat} {t : GLine} {k : Int} (hm : m < 1000000) (hn : m + 20 < n) (hw : okW m t.words) : ∀ (c i : Nat) (a : ByteArray) (us : List ByteArray) (o g : ByteArray) (ac : List GEntry), 1 ≤ i → i ≤ t.words.length → t.words.length - i < c → us.length ≤ i → a.size ≤ m → (3 ≤ k → 2 ≤ i → pathL a.data.toList = true) → ac.length ≤ 100 → (∀ e ∈ ac, textOK e = true) →
    Tot (ref17_Fact_L2 n t k c (a, us, o, g, ac, (i : Int))) fun r => match r with | .inl r => r.1.size ≤ m ∧ r.2.1.length ≤ t.words.length ∧ (3 ≤ k → 2 ≤ t.words.length → pathL r.1.data.toList = true) ∧ r.2.2.2.2.length ≤ 100 ∧ (∀ e ∈ r.2.2.2.2, textOK e = true) | .inr r => r.2.2 = 15
  | 0, _, _, _, _, _, _, _, _, h, _, _, _, _, _ => by omega
  | c + 1, i, a, us, o, g, ac, h1, hi, hc, hu, ha, hp, hl, ht => by
    rw [ref17_Fact_L2]
    by_cases h : i < t.words.length
    · have hx := hw.2 _ (List.getElem_mem h)
      have hwl := hw.1
      rw [dlt h, if_pos rfl, idxS h, Zo]
      generalize t.words[i] = x at hx
      rw [refName_some _ (by omega) (by omega), Zo, wr1 (by omega)]
      have no : ∀ v : Int, Tot (some (.inr ((⟨0, ByteArray.empty, [], ByteArray.empty, ByteArray.empty, [], 0⟩ : GFile), v, 15)) : Option ((ByteArray × List ByteArray × ByteArray × ByteArray × List GEntry) ⊕ (GFile × Int × Int))) fun r => match r with | .inl r => r.1.size ≤ m ∧ r.2.1.length ≤ t.words.length ∧ (3 ≤ k → 2 ≤ t.words.length → pathL r.1.data.toList = true) ∧ r.2.2.2.2.length ≤ 100 ∧ (∀ e ∈ r.2.2.2.2, textOK e = true) | .inr r => r.2.2 = 15 := fun v => tot_some rfl
      refine tot_bind (Q := fun b => (b = true → 3 ≤ k) ∧ (b = false → i = 1 → k < 3)) (tot_ite (fun _ => tot_some ⟨fun h => of_decide_eq_true h, fun h _ => by have := of_decide_eq_false h; omega⟩) fun h => tot_some ⟨fun h => (by cases h), fun _ e => (by rw [e] at h; cases h)⟩) fun b hb => ?_
      refine tot_ite (fun hbt => ?_) fun hbf => ?_
      · have hk3 := hb.1 hbt
        rw [path_some (by omega) (by omega), Zo]
        refine tot_ite (fun hpx => ?_) fun _ => no _
        exact words2_tot hm hn hw c (i + 1) _ _ _ _ _ (by omega) (by omega) (by omega) (by omega) hx (fun _ _ => hpx) hl ht
      · have hbf := hb.2 hbf
        refine tot_ite (fun h11 => ?_) fun h11 => ?_
        · have e1 : i = 1 := by have := eq_of_beq h11; omega
          have hk := hbf e1
          refine tot_ite (fun _ => ?_) fun _ => no _
          exact words2_tot hm hn hw c (i + 1) _ _ _ _ _ (by omega) (by omega) (by omega) (by omega) hx (fun h _ => by omega) hl ht
        · have hi1 : i ≠ 1 := fun e => by rw [e] at h11; cases h11
          have hp2 : 3 ≤ k → 2 ≤ i + 1 → pathL a.data.toList = true := fun h _ => hp h (by omega)
          refine tot_ite (fun _ => ?_) fun _ => ?_
          · rw [appS (by simp; omega), Zo]
            refine tot_ite (fun _ => ?_) fun _ => no _
            exact words2_tot hm hn hw c (i + 1) _ _ _ _ _ (by omega) (by omega) (by omega) (by simp; omega) ha hp2 hl ht
          · refine tot_ite (fun _ => ?_) fun _ => ?_
            · refine tot_ite (fun _ => ?_) fun _ => no _
              exact words2_tot hm hn hw c (i + 1) _ _ _ _ _ (by omega) (by omega) (by omega) (by omega) ha hp2 hl ht
            · refine tot_ite (fun _ => ?_) fun _ => ?_
              · refine tot_ite (fun _ => ?_) fun _ => no _
                exact words2_tot hm hn hw c (i + 1) _ _ _ _ _ (by omega) (by omega) (by omega) (by omega) ha hp2 hl ht
              · refine tot_bind (entries_tot (n := n) (s := x.text) (by omega) (by omega)) fun r hr => ?_
                refine tot_ite (fun _ => ?_) fun _ => no _
                exact words2_tot hm hn hw c (i + 1) _ _ _ _ _ (by omega) (by omega) (by omega) (by omega) ha hp2 hr.1 hr.2
    · rw [dnlt (by omega), if_neg (by decide)]
      exact tot_some ⟨ha, show us.length ≤ _ by omega, fun h1 h2 => hp h1 (by omega), hl, ht⟩
theorem tot_fit {k : Int} {w : Nat} (hk : 0 ≤ k ∧ k ≤ 4) : Tot ((if (k == 1) then
        (if ((w : Int) == 2) then
          some true
        else
          (if (k == 2) then
            (if (decide (2 ≤ (w : Int))) then
              some true
            else
              (if (decide (3 ≤ k)) then
                some ((w : Int) == 5)
              else
                some false))
          else
            (if (decide (3 ≤ k)) then
              some ((w : Int) == 5)
            else
              some false)))
      else
        (if (k == 2) then
          (if (decide (2 ≤ (w : Int))) then
            some true
          else
            (if (decide (3 ≤ k)) then
              some ((w : Int) == 5)
            else
              some false))
        else
          (if (decide (3 ≤ k)) then
            some ((w : Int) == 5)
          else
            some false))) : Option Bool) fun b => b = true → 1 ≤ k ∧ 2 ≤ w := by
  have : k = 0 ∨ k = 1 ∨ k = 2 ∨ k = 3 ∨ k = 4 := by omega
  rcases this with rfl | rfl | rfl | rfl | rfl
  · exact tot_some fun h => by cases h
  · show Tot ((if ((w : Int) == 2) then some true else some false) : Option Bool) _
    exact tot_ite (fun h => tot_some fun _ => by have := eq_of_beq h; omega) fun _ => tot_some fun h => by cases h
  · show Tot ((if decide (2 ≤ (w : Int)) then some true else some false) : Option Bool) _
    exact tot_ite (fun h => tot_some fun _ => by have := of_decide_eq_true h; omega) fun _ => tot_some fun h => by cases h
  · show Tot (some ((w : Int) == 5)) _
    exact tot_some fun h => by have := eq_of_beq h; omega
  · show Tot (some ((w : Int) == 5)) _
    exact tot_some fun h => by have := eq_of_beq h; omega
theorem fact17_tot {n m : Nat} {t : GLine} (hm : m ≤ 6000) (hn : m + 20 < n) (hw : okW m t.words) : Tot (ref17_Fact n t) fun r => r.2.2 = 0 → goodF r.1 := by
  unfold ref17_Fact
  refine tot_ite (fun _ => tot_some fun h => by cases h) fun h0 => ?_
  have h0 : 0 < t.words.length := by
    rcases Nat.eq_zero_or_pos t.words.length with e | e
    · rw [e] at h0; cases h0
    · exact e
  have hk : Tot (ref17_Fact_L1 n t n (0, 1)) _ := kind_tot (n := n) h0 n 1 0 (by omega) (by omega) (by decide)
  refine tot_bind hk fun k hk => tot_bind (tot_fit hk) fun b hb => ?_
  refine tot_ite (fun hbt => ?_) fun _ => ?_
  · obtain ⟨k1, w2⟩ := hb hbt
    have hw2 : Tot (ref17_Fact_L2 n t k n (ByteArray.empty, [], ByteArray.empty, ByteArray.empty, [], 1)) _ := words2_tot (k := k) (show m < 1000000 by omega) hn hw n 1 ByteArray.empty [] ByteArray.empty ByteArray.empty [] (by omega) (by omega) (by have := hw.1; omega) (by simp) (by simp) (fun _ h => by omega) (by simp) (by simp)
    refine tot_bind hw2 fun r hr => ?_
    cases r with
    | inl r =>
      obtain ⟨a, us, o, g, ac⟩ := r
      obtain ⟨r1, r2, r3, r4, r5⟩ := hr
      have hwl := hw.1
      dsimp only at r1 r2 r3 r4 r5
      refine tot_some fun _ => ⟨⟨k1, hk.2⟩, fun h => r3 h w2, r5, r4, ?_, ?_⟩
      · show us.length ≤ 6000
        omega
      · show a.size ≤ 6000
        omega
    | inr r =>
      have hr : r.2.2 = 15 := hr
      exact tot_some fun h => by rw [h] at hr; cases hr
  · rw [show (0 : Int) = ((0 : Nat) : Int) from rfl, idxS h0, Zo]
    exact tot_some fun h => by cases h
theorem parse17_loop {n m : Nat} {r : List GLine × Int × Int} (hm : m ≤ 6000) (hn : m + 20 < n) (hw : ∀ x ∈ r.1, okW m x.words) : ∀ (c i : Nat) (out : List GFile), i ≤ 2000 → i ≤ r.1.length → 2000 - i < c → out.length ≤ i → (∀ f ∈ out, goodF f) → Tot (ref17_Parse_L1 n r c (out, (i : Int))) fun x => match x with | .inl o => o.length ≤ r.1.length ∧ ∀ f ∈ o, goodF f | .inr x => x.1 = [] ∧ x.2.2 ≠ 0
  | 0, _, _, _, _, h, _, _ => by omega
  | c + 1, i, out, hi, hil, hc, ho, hg => by
    rw [ref17_Parse_L1]
    by_cases h : i < r.1.length
    · rw [dlt h, if_pos rfl]
      refine tot_ite (fun _ => ?_) fun h2 => ?_
      · rw [idxS h, Zo]
        exact tot_some ⟨rfl, show (8 : Int) ≠ 0 by decide⟩
      · have h2 : i ≠ 2000 := fun e => by rw [e] at h2; cases h2
        rw [idxS h, Zo]
        refine tot_bind (fact17_tot hm hn (hw _ (List.getElem_mem h))) fun ⟨f, p, e⟩ hf => ?_
        dsimp only
        refine tot_ite (fun he => tot_some ⟨rfl, bne_iff_ne.1 he⟩) fun he => ?_
        have he : e = 0 := by
          rw [bne_eq_false_iff_eq] at he
          exact he
        rw [appS (by simp; omega), Zo, wr1 (by omega)]
        refine parse17_loop hm hn hw c (i + 1) _ (by omega) (by omega) (by omega) (by simp; omega) fun x hx => ?_
        rcases List.mem_append.1 hx with hx | hx
        · exact hg x hx
        · rw [List.mem_singleton.1 hx]
          exact hf he
    · rw [dnlt (by omega), if_neg (by decide)]
      exact tot_some ⟨by omega, hg⟩
theorem parse17_tot {n : Nat} {s : ByteArray} (hs : s.size ≤ 5000) (hn : 10000 ≤ n) : Tot (ref17_Parse n s) fun r => r.1.length ≤ s.size + 1 ∧ ∀ f ∈ r.1, goodF f := by
  unfold ref17_Parse
  refine tot_bind (lines_tot (n := n) (s := s) (by omega) (by omega)) fun r ⟨hrl, hw⟩ => ?_
  refine tot_ite (fun _ => tot_some ⟨by simp, by simp⟩) fun _ => ?_
  have h : Tot (ref17_Parse_L1 n r n ([], 0)) _ := parse17_loop (m := s.size) (by omega) (by omega) hw n 0 [] (by omega) (by omega) (by omega) (by simp) (by simp)
  refine tot_bind h fun x hx => ?_
  cases x with
  | inl o => exact tot_some ⟨Nat.le_trans hx.1 hrl, hx.2⟩
  | inr x =>
    obtain ⟨x, y, z⟩ := x
    obtain ⟨h1, _⟩ := hx
    dsimp only at h1
    subst h1
    exact tot_some ⟨by simp, by simp⟩
end Go.Proofs.YtgmhbmcdlkajdaaGreatDoor.Ab
