/-
  Words of the functions that are read off the code, told plainly: lists, texts, loops over them. No program in sight.
-/
import Derived.Test.YtedgdpncienjiaaLtx
namespace Go.Proofs.Ytedgdpncienjiaa.Ab
open Go.RowKit

/-! ### numbers -/
theorem wr {x : Int} (h1 : -9223372036854775808 ≤ x) (h2 : x < 9223372036854775808) : IntKind.i64.wrap x = x := IntWalk.i64_in _ (by omega)
theorem wr1 {k : Nat} (h : k < 9223372036854775807) : IntKind.i64.wrap ((k : Int) + 1) = ((k + 1 : Nat) : Int) := wrap_one (by omega)
theorem dI (a b : Nat) : decide ((a : Int) < (b : Int)) = decide (a < b) := by simp
theorem dlt {a b : Nat} (h : a < b) : decide ((a : Int) < (b : Int)) = true := by simp; omega
theorem dnlt {a b : Nat} (h : b ≤ a) : decide ((a : Int) < (b : Int)) = false := by simp; omega
theorem an8 (t : Int) : IntKind.i64.wrap (an t 255 : Int) = (an t 255 : Nat) := wrap_an _ _ (by decide)
theorem an8_le (t : Int) : an t 255 ≤ 255 := Nat.le_trans (an_le _ _) (by decide)
/-! ### lists -/
theorem idxS {α : Type} {xs : List α} {k : Nat} (h : k < xs.length) : idx xs (k : Int) = some xs[k] := by rw [idx_nat, List.getElem?_eq_getElem h]
theorem appS {α : Type} {xs ys : List α} (h : xs.length + ys.length ≤ 4294967296) : app xs ys = some (xs ++ ys) := if_pos h
theorem slcS {α : Type} {xs : List α} {a b : Nat} (h1 : a ≤ b) (h2 : b ≤ xs.length) : slc xs (a : Int) (b : Int) = some ((xs.take b).drop a) := by
  unfold slc
  rw [if_pos ⟨by omega, by omega, by omega⟩]
  rfl
theorem foldK_eq {α S X : Type} {f : S → α → (S → Option X) → Option X} {e : S → Option X} (g : S → α → S) : ∀ (xs : List α) (st : S), (∀ st x k, x ∈ xs → f st x k = k (g st x)) → foldK f e xs st = e (xs.foldl g st)
  | [], _, _ => rfl
  | x :: r, st, h => by
    have ih := foldK_eq (e := e) g r (g st x) fun st y k hy => h st y k (List.mem_cons_of_mem _ hy)
    rw [foldK, h st x _ (List.mem_cons_self ..)]
    exact ih
/-! ### texts -/
theorem bget (s : ByteArray) (i : Nat) : s[i]? = s.data.toList[i]? := by
  simp [getElem?_def, ByteArray.getElem_eq_getElem_data, ByteArray.size_data]
theorem bsize (s : ByteArray) : s.data.toList.length = s.size := by simp
theorem bidxS {s : ByteArray} {k : Nat} (h : k < s.size) : bidx s (k : Int) = some ((s.data.toList[k]'(by rw [bsize]; exact h)).toNat : Int) := by
  unfold bidx
  rw [if_pos (by omega), Int.toNat_natCast, bget, List.getElem?_eq_getElem (by rw [bsize]; exact h)]
  rfl
theorem bslcS {s : ByteArray} {a b : Nat} (h1 : a ≤ b) (h2 : b ≤ s.size) : bslc s (a : Int) (b : Int) = some (s.extract a b) := by
  unfold bslc
  rw [if_pos ⟨by omega, by omega, by omega⟩]
  rfl
theorem catS {a b : ByteArray} (h : a.size + b.size ≤ maxLen) : cat a b = some (a ++ b) := if_pos h
theorem list_ext (s : ByteArray) (a b : Nat) : (s.extract a b).data.toList = (s.data.toList.take b).drop a := by
  rw [ByteArray.data_extract, Array.toList_extract, List.extract_eq_take_drop, List.drop_take]
theorem list_app (s t : ByteArray) : (s ++ t).data.toList = s.data.toList ++ t.data.toList := by rw [ByteArray.data_append, Array.toList_append]
theorem ext_one {s : ByteArray} {k : Nat} (h : k < s.size) : (s.extract k (k + 1)).data.toList = [s.data.toList[k]'(by rw [bsize]; exact h)] := by
  have h' : k < s.data.toList.length := by rw [bsize]; exact h
  rw [list_ext, ← List.take_append_getElem h', List.drop_append_of_le_length (by rw [List.length_take]; omega)]
  simp
theorem ext_size (s : ByteArray) {a b : Nat} (h2 : b ≤ s.size) : (s.extract a b).size = b - a := by
  rw [ByteArray.size_extract, Nat.min_eq_left h2]
theorem bs_eq {a b : ByteArray} : a = b ↔ a.data.toList = b.data.toList := ⟨fun h => by rw [h], bytes_inj⟩
/-- Does a text begin with another one? -/
def preB (p s : ByteArray) : Bool := decide (p.size ≤ s.size) && decide (s.extract 0 p.size = p)
/-- Does it end with a star? -/
def starB (p : ByteArray) : Bool := p.data.toList.getLast? == some 42

/-! ### loops -/
/-- The first that a question is answered yes for. -/
theorem ixf_loop {α : Type} {L : Nat → Int → Option (Unit ⊕ Int)} {xs : List α} {P : α → Option Bool} (p : α → Bool) (h0 : ∀ c i, L (c + 1) i = if decide (i < (xs.length : Int)) then (idx xs i).bind fun x => (P x).bind fun b => if b then some (.inr i) else L c (IntKind.i64.wrap (i + 1)) else some (.inl ()))
    (hP : ∀ x ∈ xs, P x = some (p x)) (hx : xs.length < 4611686018427387904) : ∀ (c j : Nat), j ≤ xs.length → xs.length - j < c → ∃ r, L c (j : Int) = some r ∧ (((xs.drop j).any p = true ∧ ∃ k : Nat, r = .inr (k : Int)) ∨ ((xs.drop j).any p = false ∧ r = .inl ()))
  | 0, _, _, h => by omega
  | c + 1, j, hj, hc => by
    rw [h0]
    by_cases hlt : j < xs.length
    · rw [dlt hlt, if_pos rfl, idxS hlt, Option.bind_some, hP _ (List.getElem_mem hlt), Option.bind_some, List.drop_eq_getElem_cons hlt]
      cases hp : p xs[j] with
      | true => exact ⟨_, if_pos rfl, .inl ⟨by rw [List.any_cons, hp, Bool.true_or], j, rfl⟩⟩
      | false =>
        rw [if_neg (by decide), wr1 (by omega)]
        obtain ⟨r, h1, h2⟩ := ixf_loop p h0 hP hx c (j + 1) (by omega) (by omega)
        exact ⟨r, h1, by rw [List.any_cons, hp, Bool.false_or]; exact h2⟩
    · rw [dnlt (by omega), if_neg (by decide), List.drop_eq_nil_of_le (by omega)]
      exact ⟨_, rfl, .inr ⟨rfl, rfl⟩⟩
/-- Do two rows hold the same? -/
theorem same_loop {α : Type} [DecidableEq α] {L : Nat → Int → Option (Unit ⊕ Bool)} {xs ys : List α} {E : α → α → Bool} (hE : ∀ x y, E x y = decide (x = y)) (h0 : ∀ c i, L (c + 1) i = if decide (i < (xs.length : Int)) then (idx xs i).bind fun x => (idx ys i).bind fun y => if E x y then L c (IntKind.i64.wrap (i + 1)) else some (.inr false) else some (.inl ()))
    (hl : xs.length = ys.length) (hx : xs.length < 4611686018427387904) : ∀ (c j : Nat), j ≤ xs.length → xs.length - j < c → L c (j : Int) = some (if xs.drop j = ys.drop j then .inl () else .inr false)
  | 0, _, _, h => by omega
  | c + 1, j, hj, hc => by
    rw [h0]
    by_cases hlt : j < xs.length
    · rw [dlt hlt, if_pos rfl, idxS hlt, Option.bind_some, idxS (by omega), Option.bind_some, hE, List.drop_eq_getElem_cons hlt, List.drop_eq_getElem_cons (show j < ys.length by omega)]
      by_cases e : xs[j] = ys[j]
      · rw [decide_eq_true e, if_pos rfl, wr1 (by omega), same_loop hE h0 hl hx c (j + 1) (by omega) (by omega)]
        simp only [List.cons.injEq, e, true_and]
      · rw [decide_eq_false e, if_neg (by decide), if_neg fun h => e (List.cons.inj h).1]
    · rw [dnlt (by omega), if_neg (by decide), List.drop_eq_nil_of_le (by omega), List.drop_eq_nil_of_le (by omega), if_pos rfl]
/-- Two rising rows made one, by the loop of the document's halves. -/
theorem merge_loop {α : Type} (O : Lin α) {L : Nat → List α × Int × Int → Option (List α)} {a b : List α}
    (h0 : ∀ c t i k, L (c + 1) (t, i, k) =
      (((if decide (i < (a.length : Int)) then some (t, true) else some (t, decide (k < (b.length : Int)))) : Option (List α × Bool)).bind fun q =>
      (if q.2 then
        (((if k == (b.length : Int) then some (q.1, true) else (if decide (i < (a.length : Int)) then (idx a i).bind fun x => (idx b k).bind fun y => some (q.1, O.lt x y) else some (q.1, false))) : Option (List α × Bool)).bind fun w =>
        (if w.2 then (idx a i).bind fun x => (app w.1 [x]).bind fun l => L c (l, IntKind.i64.wrap (i + 1), k)
        else (if i == (a.length : Int) then (idx b k).bind fun y => (app w.1 [y]).bind fun l => L c (l, i, IntKind.i64.wrap (k + 1))
          else (idx b k).bind fun y => (idx a i).bind fun x => (if O.lt y x then (app w.1 [y]).bind fun l => L c (l, i, IntKind.i64.wrap (k + 1)) else L c (w.1, IntKind.i64.wrap (i + 1), k)))))
      else some q.1)))
    : ∀ (c : Nat) (t : List α) (i k : Nat), i ≤ a.length → k ≤ b.length → (a.length - i) + (b.length - k) < c → t.length + (a.length - i) + (b.length - k) ≤ 4294967296 → a.length < 4611686018427387904 → b.length < 4611686018427387904 →
      L c (t, (i : Int), (k : Int)) = some (t ++ O.mg (a.drop i) (b.drop k))
  | 0, _, _, _, _, _, h, _, _, _ => by omega
  | c + 1, t, i, k, hi, hk, hc, ht, ha, hb => by
    have ih := merge_loop O h0 c
    rw [h0]
    by_cases h1 : i < a.length
    · rw [dlt h1, if_pos rfl, Option.bind_some, if_pos rfl]
      by_cases h2 : k < b.length
      · have e2 : ((k : Int) == (b.length : Int)) = false := by simp; omega
        rw [e2, if_neg (by decide), if_pos rfl, idxS h1, Option.bind_some, idxS h2, Option.bind_some, Option.bind_some]
        cases h3 : O.lt a[i] b[k] with
        | true =>
          dsimp only
          rw [if_pos rfl, Option.bind_some, appS (by simp; omega), Option.bind_some, wr1 (by omega), ih _ _ _ (by omega) hk (by omega) (by simp; omega) ha hb, O.step_left (List.getElem?_eq_getElem h1) (.inr ⟨_, List.getElem?_eq_getElem h2, h3⟩)]
          simp
        | false =>
          have e1 : ((i : Int) == (a.length : Int)) = false := by simp; omega
          dsimp only
          rw [if_neg (by decide), e1, if_neg (by decide), Option.bind_some, Option.bind_some]
          cases h4 : O.lt b[k] a[i] with
          | true =>
            rw [if_pos rfl, appS (by simp; omega), Option.bind_some, wr1 (by omega), ih _ _ _ hi (by omega) (by omega) (by simp; omega) ha hb, O.step_right (List.getElem?_eq_getElem h2) (.inr ⟨_, List.getElem?_eq_getElem h1, h3, h4⟩)]
            simp
          | false =>
            rw [if_neg (by decide), wr1 (by omega), ih _ _ _ (by omega) hk (by omega) (by omega) ha hb, O.step_both (List.getElem?_eq_getElem h1) (List.getElem?_eq_getElem h2) h3 h4]
      · have e2 : ((k : Int) == (b.length : Int)) = true := by simp; omega
        rw [e2, if_pos rfl, Option.bind_some, if_pos rfl, idxS h1, Option.bind_some, appS (by simp; omega), Option.bind_some, wr1 (by omega), ih _ _ _ (by omega) hk (by omega) (by simp; omega) ha hb, O.step_left (List.getElem?_eq_getElem h1) (.inl (by omega))]
        simp
    · rw [dnlt (by omega), if_neg (by decide), Option.bind_some]
      by_cases h2 : k < b.length
      · have e2 : ((k : Int) == (b.length : Int)) = false := by simp; omega
        have e1 : ((i : Int) == (a.length : Int)) = true := by simp; omega
        dsimp only
        rw [dlt h2, if_pos rfl, e2, if_neg (by decide), if_neg (by decide), Option.bind_some]
        dsimp only
        rw [if_neg (by decide), e1, if_pos rfl, idxS h2, Option.bind_some, appS (by simp; omega), Option.bind_some, wr1 (by omega), ih _ _ _ hi (by omega) (by omega) (by simp; omega) ha hb, O.step_right (List.getElem?_eq_getElem h2) (.inl (by omega))]
        simp
      · dsimp only
        rw [dnlt (by omega), if_neg (by decide), List.drop_eq_nil_of_le (by omega), List.drop_eq_nil_of_le (by omega), O.nil_mg, List.append_nil]
theorem ofL_len {α : Type} (O : Lin α) (l : List α) : (O.ofL l).length ≤ l.length := by
  have ins_len : ∀ (x : α) (l : List α), (O.ins x l).length ≤ l.length + 1 := fun x l => by
    induction l with
    | nil => simp [Lin.ins]
    | cons y r ih =>
      simp only [Lin.ins]
      split
      · simp
      · split
        · simp; omega
        · simp
  induction l with
  | nil => simp [Lin.ofL]
  | cons x r ih =>
    have := ins_len x (O.ofL r)
    have e : O.ofL (x :: r) = O.ins x (O.ofL r) := rfl
    rw [e, List.length_cons]
    omega
theorem ofL_short {α : Type} (O : Lin α) {l : List α} (h : l.length < 2) : O.ofL l = l := by
  match l, h with
  | [], _ => rfl
  | [x], _ => rfl
end Go.Proofs.Ytedgdpncienjiaa.Ab
