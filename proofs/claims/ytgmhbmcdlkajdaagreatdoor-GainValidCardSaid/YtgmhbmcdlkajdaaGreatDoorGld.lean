/-
 What a new thing's entries are. No program in sight.
-/
import Derived.Test.YtgmhbmcdlkajdaaGreatDoorGlb
import Derived.Test.YtgmhbmcdlkajdaaGreatDoorNmx
namespace Go.Proofs.YtgmhbmcdlkajdaaGreatDoor.Ab
open Go.RowKit
theorem tot_both {α : Type} {o : Option α} {Q R : α → Prop} (h1 : Tot o Q) (h2 : Tot o R) : Tot o fun x => Q x ∧ R x := by
 obtain ⟨x, e, q⟩ := h1
 obtain ⟨y, e2, r⟩ := h2
 rw [e, Option.some.injEq] at e2
 subst e2
 exact ⟨x, e, q, r⟩
theorem vline_loop {l : List Int} : ∀ (c i : Nat) (f : List GFile), i ≤ 20 → 20 - i < c → GoodL f → f.length ≤ 300 * i → (∀ x ∈ f, lineB x = true) → Tot (law18_Valid_L1 NF l c (f, (i : Int))) fun f => (GoodL f ∧ f.length ≤ 6000) ∧ ∀ x ∈ f, lineB x = true
 | 0, _, _, _, h, _, _, _ => by omega
 | c + 1, i, f, hi, hc, hg, hl, hb0 => by
  have hNF : NF = 30000 := rfl
  rw [law18_Valid_L1]
  refine tot_bind (Q := fun b => b = true → i < l.length ∧ i < 20) (tot_ite (fun h => tot_some fun h2 => ⟨by have := of_decide_eq_true h; omega, by have := of_decide_eq_true h2; omega⟩) fun _ => tot_some fun h => by cases h) fun b hb => ?_
  refine tot_ite (fun hbt => ?_) fun _ => tot_some ⟨⟨hg, by omega⟩, hb0⟩
  obtain ⟨h1, h2⟩ := hb hbt
  rw [idxS h1, Zo, wr1 (by omega)]
  refine tot_bind (tot_both (line17_tot (n := NF) (by decide) _) (line_fact _)) fun s ⟨hs, hp⟩ => tot_bind (tot_both (parse17_tot (n := NF) (by omega) (by decide)) hp) fun r ⟨hr, hr2⟩ => ?_
  refine tot_ite (fun _ => vline_loop c (i + 1) f (by omega) (by omega) hg (by omega) hb0) fun _ => ?_
  rw [appS (by simp; omega), Zo, appS (by omega), Zo]
  have hgood : ∀ x ∈ f ++ r.1, goodF x := fun x hx => by
   rcases List.mem_append.1 hx with h | h
   ·exact hg.1 x h
   ·exact hr.2 x h
  have hline : ∀ x ∈ f ++ r.1, lineB x = true := fun x hx => by
   rcases List.mem_append.1 hx with h | h
   ·exact hb0 x h
   ·exact hr2 x h
  refine tot_bind (valid_some (l := f ++ r.1) (by simp; omega) (fun x hx => (hgood x hx).siz) fun x hx => (hgood x hx).2.1) fun v hv => ?_
  refine tot_ite (fun h0 => ?_) fun _ => vline_loop c (i + 1) f (by omega) (by omega) hg (by omega) hb0
  exact vline_loop c (i + 1) _ (by omega) (by omega) ⟨hgood, hv.1 (eq_of_beq h0)⟩ (by simp; omega) hline
theorem allp_line : ∀ {Qs : List (GFile → Prop)} {fs : List GFile}, AllP Qs fs → (∀ Q ∈ Qs, ∀ f, Q f → lineB f = true) → ∀ f ∈ fs, lineB f = true
 | [], [], _, _, f, hf => by cases hf
 | Q :: Qs, x :: fs, h, hq, f, hf => by
  unfold AllP at h
  rcases List.mem_cons.1 hf with rfl | hf
  ·exact hq Q (List.mem_cons_self ..) f h.1
  ·exact allp_line h.2 (fun Q hQ => hq Q (List.mem_cons_of_mem _ hQ)) f hf
 | [], _ :: _, h, _, _, _ => h.elim
 | _ :: _, [], h, _, _, _ => h.elim
theorem usr_line {u : List UInt8} (hq : (newP.all fun q => decide (bA u ≠ q)) = true) (f : GFile) (h : isUsr u f) : lineB f = true := by
 unfold isUsr at h
 unfold lineB
 rw [h]
 exact hq
theorem grp_line {g : List UInt8} {us : List (List UInt8)} (hq : (newP.all fun q => decide (bA g ≠ q)) = true) (f : GFile) (h : isGrp g us f) : lineB f = true := by
 unfold isGrp at h
 unfold lineB
 rw [h]
 exact hq
theorem itm_line {k : Int} {p o g : List UInt8} {d : Bool} (hq : (newP.all fun q => decide (bA p ≠ q)) = true) (f : GFile) (h : isItm k p o g d f) : lineB f = true := by
 obtain ⟨h1, _, _, _, h5⟩ := h
 unfold lineB
 rw [decide_eq_true h5, h1]
 exact hq
theorem base_line (W : List (List UInt8)) : ∀ Q ∈ baseQ W, ∀ f, Q f → lineB f = true := by
 intro Q hQ
 unfold baseQ at hQ
 simp only [List.mem_cons, List.not_mem_nil, or_false] at hQ
 rcases hQ with rfl | rfl | rfl | rfl | rfl | rfl | rfl | rfl | rfl | rfl | rfl
 ·exact usr_line (by decide)
 ·exact usr_line (by decide)
 ·exact usr_line (by decide)
 ·exact grp_line (by decide)
 ·exact grp_line (by decide)
 ·exact itm_line (by decide)
 ·exact itm_line (by decide)
 ·exact itm_line (by decide)
 ·exact itm_line (by decide)
 ·exact itm_line (by decide)
 ·exact itm_line (by decide)
theorem valid18L (l : List Int) : Tot (law18_Valid NF l) fun f => (GoodL f ∧ f.length ≤ 6000) ∧ ∀ x ∈ f, lineB x = true := by
 have hNF : NF = 30000 := rfl
 unfold law18_Valid
 refine tot_bind (Q := fun _ => True) (tot_ite (fun h => ?_) fun _ => tot_some trivial) fun v _ => ?_
 ·have h := of_decide_eq_true h
  rw [show (0 : Int) = ((0 : Nat) : Int) from rfl, idxS (by omega), Zo]
  exact tot_some trivial
 obtain ⟨s, fs, W, X, hz, hs, hp, hq, hx⟩ := base_of v
 obtain ⟨r, hr, hr2⟩ := parse17_tot (n := NF) hz (by decide)
 rw [hp, Option.some.injEq] at hr
 subst hr
 obtain ⟨hv, hlen⟩ := base_valid hx hq
 rw [hs, Zo, hp, Zo]
 have h : Tot (law18_Valid_L1 NF l NF (fs, 1)) _ := vline_loop NF 1 fs (by omega) (by decide) ⟨hr2.2, hv⟩ (by omega) (allp_line hq (base_line W))
 exact tot_bind h fun f hf => tot_some hf
theorem gfind_loop {n : Nat} {l : List GFile} {p : ByteArray} (hl : l.length < 1000000) (hk : ∀ f ∈ l, f.kind ≤ 4) : ∀ (c i : Nat), i ≤ l.length → l.length - i < c → gain_find_L1 n l p c (i : Int) = some (match (l.drop i).find? (fun f => itemB f && decide (f.name = p)) with | some f => .inr (f, true) | none => .inl ())
 | 0, _, _, h => by omega
 | c + 1, i, hi, hc => by
  rw [gain_find_L1]
  by_cases h : i < l.length
  ·have hm := hk _ (List.getElem_mem h)
   have e : mask_IsFile n l[i] = some (itemB l[i]) := by
    unfold mask_IsFile itemB
    generalize l[i].kind = k at hm
    by_cases h3 : k = 3
    ·subst h3; rfl
    ·rw [show (k == 3) = false from beq_eq_false_iff_ne.2 h3, if_neg (by decide)]
     congr 1
     rw [Bool.eq_iff_iff, beq_iff_eq, decide_eq_true_eq]
     omega
   rw [dlt h, if_pos rfl, idxS h, Zo, e, Zo, beqS, wr1 (by omega), gfind_loop hl hk c (i + 1) (by omega) (by omega), List.drop_eq_getElem_cons h, List.find?_cons]
   cases itemB l[i] <;> cases decide (l[i].name = p) <;> rfl
  ·rw [dnlt (by omega), if_neg (by decide), List.drop_eq_nil_of_le (by omega)]
   rfl
theorem gfind_some {n : Nat} {l : List GFile} {p : ByteArray} (hl : l.length < 1000000) (hn : l.length < n) (hk : ∀ f ∈ l, f.kind ≤ 4) : gain_find n l p = some (findF l p) := by
 unfold gain_find findF
 have h : gain_find_L1 n l p n 0 = _ := gfind_loop hl hk n 0 (by omega) (by omega)
 rw [h, List.drop_zero, Zo]
 cases l.find? (fun f => itemB f && decide (f.name = p)) <;> rfl
def dg (mode : Int) (k : Nat) : Int := IntKind.i64.wrap (an (sh mode k) 7 : Int)
theorem dg_0 {n : Nat} {mode : Int} : gain_digit n mode 0 = some (dg mode 6) := rfl
theorem dg_1 {n : Nat} {mode : Int} : gain_digit n mode 1 = some (dg mode 3) := rfl
theorem dg_2 {n : Nat} {mode : Int} : gain_digit n mode 2 = some (dg mode 0) := rfl
theorem and7 (x : Int) : IntKind.i64.wrap (an x 7 : Int) = (an x 7 : Int) ∧ an x 7 ≤ 7 := by
 have h : (BitVec.ofInt 64 7).toNat = 7 := rfl
 have h1 := an_le x 7
 exact ⟨wrap_an x 7 (by omega), by omega⟩
theorem dg_le (mode : Int) (k : Nat) : 0 ≤ dg mode k ∧ dg mode k ≤ 7 := by
 unfold dg
 obtain ⟨h1, h2⟩ := and7 (sh mode k)
 rw [h1]
 omega
def inhE (mode : Int) (x : GEntry) : GEntry := ⟨x.kind, false, x.name, if x.kind == 1 then IntKind.i64.wrap (an x.bits (dg mode 6) : Int) else if x.kind == 5 then IntKind.i64.wrap (an x.bits (dg mode 3) : Int) else if x.kind == 6 then IntKind.i64.wrap (an x.bits (dg mode 0) : Int) else x.bits⟩
theorem fl_t {x : GEntry} {l : List GEntry} (h : x.default = true) : fl true (x :: l) = x :: fl true l := by
 rw [fl_cons, h]
 rfl
theorem fl_f {x : GEntry} {l : List GEntry} (h : x.default = false) : fl true (x :: l) = fl true l := by
 rw [fl_cons, h]
 rfl
theorem inh_loop {n : Nat} {mode : Int} {t : List GEntry × Bool} (hl : t.1.length < 1000000) : ∀ (c i : Nat) (out : List GEntry), i ≤ t.1.length → t.1.length - i < c → out.length ≤ i → gain_New_L1 n mode t c (out, (i : Int)) = some (out ++ (fl true (t.1.drop i)).map (inhE mode))
 | 0, _, _, _, h, _ => by omega
 | c + 1, i, out, hi, hc, ho => by
  rw [gain_New_L1]
  by_cases h : i < t.1.length
  ·rw [dlt h, if_pos rfl, idxS h, Zo, wr1 (by omega), List.drop_eq_getElem_cons h]
   cases hd : t.1[i].default with
   | false =>
    rw [if_neg (by decide), fl_f hd]
    exact inh_loop hl c (i + 1) out (by omega) (by omega) (by omega)
   | true =>
    have fin : ∀ e : GEntry, inhE mode t.1[i] = e → ((app out [e]).bind fun l => gain_New_L1 n mode t c (l, ((i + 1 : Nat) : Int))) = some (out ++ (t.1[i] :: fl true (t.1.drop (i + 1))).map (inhE mode)) := fun e he => by
     rw [appS (by simp; omega), Zo, inh_loop (n := n) (mode := mode) hl c (i + 1) (out ++ [e]) (by omega) (by omega) (by simp; omega), ← he, List.map_cons, List.append_assoc]
     rfl
    rw [if_pos rfl, fl_t hd]
    unfold inhE at fin
    cases h1 : (t.1[i].kind == 1) with
    | true =>
     rw [if_pos rfl, dg_0, Zo]
     exact fin _ (by rw [h1, if_pos rfl])
    | false =>
     rw [if_neg (by decide)]
     cases h5 : (t.1[i].kind == 5) with
     | true =>
      rw [if_pos rfl, dg_1, Zo]
      exact fin _ (by rw [h1, h5, if_neg (by decide), if_pos rfl])
     | false =>
      rw [if_neg (by decide)]
      cases h6 : (t.1[i].kind == 6) with
      | true =>
       rw [if_pos rfl, dg_2, Zo]
       exact fin _ (by rw [h1, h5, h6, if_neg (by decide), if_neg (by decide), if_pos rfl])
      | false =>
       rw [if_neg (by decide)]
       exact fin _ (by rw [h1, h5, h6, if_neg (by decide), if_neg (by decide), if_neg (by decide)])
  ·rw [dnlt (by omega), if_neg (by decide), List.drop_eq_nil_of_le (by omega)]
   show _ = some (out ++ [])
   rw [List.append_nil]
theorem def_loop {n : Nat} {l : List GEntry} (hl : l.length < 1000000) : ∀ (c i : Nat) (out : List GEntry), i ≤ l.length → l.length - i < c → out.length ≤ i → gain_byDefault_L1 n l c (out, (i : Int)) = some (out ++ fl true (l.drop i))
 | 0, _, _, _, h, _ => by omega
 | c + 1, i, out, hi, hc, ho => by
  rw [gain_byDefault_L1]
  by_cases h : i < l.length
  ·rw [dlt h, if_pos rfl, idxS h, Zo, wr1 (by omega), List.drop_eq_getElem_cons h]
   cases hd : l[i].default with
   | false =>
    rw [if_neg (by decide), fl_f hd]
    exact def_loop hl c (i + 1) out (by omega) (by omega) (by omega)
   | true =>
    have e : (⟨l[i].kind, true, l[i].name, l[i].bits⟩ : GEntry) = l[i] := by rw [← hd]
    rw [if_pos rfl, fl_t hd, e, appS (by simp; omega), Zo, def_loop hl c (i + 1) _ (by omega) (by omega) (by simp; omega), List.append_assoc]
    rfl
  ·rw [dnlt (by omega), if_neg (by decide), List.drop_eq_nil_of_le (by omega)]
   show _ = some (out ++ [])
   rw [List.append_nil]
def plainE (mode : Int) : List GEntry := [⟨1, false, ByteArray.empty, dg mode 6⟩, ⟨3, false, ByteArray.empty, dg mode 3⟩, ⟨5, false, ByteArray.empty, dg mode 3⟩, ⟨6, false, ByteArray.empty, dg mode 0⟩]
theorem plain_some {n : Nat} {mode : Int} : gain_New_C2_gain_plain n mode = some (plainE mode) := rfl
theorem inh_some {n : Nat} {mode : Int} {t : List GEntry × Bool} (hl : t.1.length < 1000000) (hn : t.1.length < n) : gain_New_C1_gain_inherited n mode t = some ((fl true t.1).map (inhE mode)) := by
 unfold gain_New_C1_gain_inherited
 have h : gain_New_L1 n mode t n ([], 0) = _ := inh_loop hl n 0 [] (by omega) (by omega) (by simp)
 rw [h, List.drop_zero]
 rfl
theorem def_some {n : Nat} {l : List GEntry} (hl : l.length < 1000000) (hn : l.length < n) : gain_byDefault n l = some (fl true l) := by
 unfold gain_byDefault
 have h : gain_byDefault_L1 n l n ([], 0) = _ := def_loop hl n 0 [] (by omega) (by omega) (by simp)
 rw [h, List.drop_zero]
 rfl
end Go.Proofs.YtgmhbmcdlkajdaaGreatDoor.Ab
