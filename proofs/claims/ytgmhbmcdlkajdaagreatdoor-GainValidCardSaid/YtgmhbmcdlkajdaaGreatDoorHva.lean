/-
 What is made stands beside what is there: a new thing's fact, and that the facts stay valid. No program in sight.
-/
import Derived.Test.YtgmhbmcdlkajdaaGreatDoorGld
namespace Go.Proofs.YtgmhbmcdlkajdaaGreatDoor.Ab
open Go.RowKit
theorem fl_app {d : Bool} {a b : List GEntry} : fl d (a ++ b) = fl d a ++ fl d b := List.filter_append ..
theorem fl_same {d : Bool} {a : List GEntry} (h : ∀ x ∈ a, x.default = d) : fl d a = a := List.filter_eq_self.2 fun x hx => by rw [h x hx]; exact beq_self_eq_true d
theorem fl_none {a : List GEntry} {d : Bool} (h : ∀ x ∈ a, x.default = !d) : fl d a = [] := List.filter_eq_nil_iff.2 fun x hx => by rw [h x hx]; cases d <;> decide
theorem part_self {d : Bool} {a : List GEntry} (h : a.any isM = true) (hs : SSE a) : partE d a = a := by
 have e : maskE d a = [] := by
  unfold maskE
  rw [h, if_pos rfl]
 show srtE (a ++ maskE d a) = a
 rw [e, List.append_nil]
 exact (srtE_of hs (List.Perm.refl _)).symm
theorem oke_app {o d : List GEntry} (h1 : ∀ x ∈ o, textOK x = true) (hd1 : ∀ x ∈ o, x.default = false) (h2 : SSE o) (h3 : whole3 o = true) (h4 : o.any isM = true) (g1 : ∀ x ∈ d, textOK x = true) (hd2 : ∀ x ∈ d, x.default = true) (g2 : SSE d) (g3 : d = [] ∨ (whole3 d = true ∧ d.any isM = true)) (hl : o.length + d.length ≤ 100) : OKE (o ++ d) = true ∧ allE (o ++ d) = o ++ d := by
 have e0 : fl false (o ++ d) = o := by rw [fl_app, fl_same hd1, fl_none (d := false) hd2, List.append_nil]
 have e1 : fl true (o ++ d) = d := by rw [fl_app, fl_same hd2, fl_none (d := true) hd1, List.nil_append]
 have p0 : partE false o = o := part_self h4 h2
 have p1 : (if d.isEmpty then [] else partE true d) = d := by
  rcases g3 with rfl | ⟨_, k⟩
  ·rfl
  ·split
   ·next h => rw [List.isEmpty_iff.1 h]
   ·exact part_self k g2
 have ht : (o ++ d).all textOK = true := List.all_eq_true.2 fun x hx => by
  rcases List.mem_append.1 hx with h | h
  ·exact h1 x h
  ·exact g1 x h
 have hw : (d.isEmpty || whole3 d) = true := by
  rcases g3 with rfl | ⟨k, _⟩
  ·rfl
  ·rw [k, Bool.or_true]
 refine ⟨?_, ?_⟩
 ·show ((o ++ d).all textOK && (decide (Apart (fl false (o ++ d))) && (whole3 (fl false (o ++ d)) && (decide (Apart (fl true (o ++ d))) && (((fl true (o ++ d)).isEmpty || whole3 (fl true (o ++ d))) && decide ((partE false (fl false (o ++ d))).length + (if (fl true (o ++ d)).isEmpty then [] else partE true (fl true (o ++ d))).length ≤ 100)))))) = true
  rw [e0, e1, p0, p1, ht, decide_eq_true h2.apart, h3, decide_eq_true g2.apart, hw, decide_eq_true hl]
  rfl
 ·show partE false (fl false (o ++ d)) ++ (if (fl true (o ++ d)).isEmpty then [] else partE true (fl true (o ++ d))) = o ++ d
  rw [e0, e1, p0, p1]
def defE (es : List GEntry) : List GEntry := fl true (allE es)
theorem def_ok {es : List GEntry} (h : OKE es = true) : (∀ x ∈ defE es, textOK x = true) ∧ (∀ x ∈ defE es, x.default = true) ∧ SSE (defE es) ∧ (defE es = [] ∨ (whole3 (defE es) = true ∧ (defE es).any isM = true)) ∧ (defE es).length ≤ es.length + 1 := by
 obtain ⟨ht, a0, w0, a1, w1, hlen⟩ := oke_iff h
 refine ⟨fun x hx => allE_text ht x (mem_fl.1 hx).1, fun x hx => (mem_fl.1 hx).2, List.Pairwise.filter _ (allE_SS a0 a1), ?_, ?_⟩
 ·unfold defE
  rw [fl_all1]
  split
  ·exact .inl rfl
  ·next h2 =>
   rcases w1 with w | w
   ·exact absurd w h2
   ·exact .inr ⟨whole_sub part_sub w, part_any⟩
 ·unfold defE
  rw [fl_all1]
  split
  ·exact Nat.zero_le _
  ·have := partE_len true (fl true es)
   have := fl_len true es
   omega
def ownE (mode : Int) (d : List GEntry) : List GEntry := if d.isEmpty then plainE mode else d.map (inhE mode)
theorem an_7 {x y : Int} (hy : 0 ≤ y ∧ y ≤ 7) : 0 ≤ IntKind.i64.wrap (an x y : Int) ∧ IntKind.i64.wrap (an x y : Int) ≤ 7 := by
 have h1 : (BitVec.ofInt 64 y).toNat ≤ 7 := by
  refine of8 (p := fun y => (BitVec.ofInt 64 y).toNat ≤ 7) (fun i => ?_) hy
  revert i
  decide
 have h2 := an_le x y
 rw [wrap_an x y (by omega)]
 omega
theorem inh_text {mode : Int} {x : GEntry} (h : textOK x = true) : textOK (inhE mode x) = true := by
 obtain ⟨h1, h2, h3, h4⟩ := textOK_iff h
 have hb : 0 ≤ (inhE mode x).bits ∧ (inhE mode x).bits ≤ 7 := by
  unfold inhE
  dsimp only
  split
  ·exact an_7 (dg_le ..)
  ·split
   ·exact an_7 (dg_le ..)
   ·split
    ·exact an_7 (dg_le ..)
    ·exact h2
 unfold textOK at h ⊢
 rw [decide_eq_true hb.1, decide_eq_true hb.2]
 simp only [Bool.and_eq_true] at h ⊢
 exact ⟨h.1, h.2.1, h.2.2.1, trivial, trivial⟩
theorem inh_cf {mode : Int} {x y : GEntry} (hx : x.default = true) (hy : y.default = true) : cfE (inhE mode x) (inhE mode y) = cfE x y := by
 rw [cfE_def, cfE_def, hx, hy]
 rfl
theorem own_ok {mode : Int} {d : List GEntry} (h1 : ∀ x ∈ d, textOK x = true) (h2 : ∀ x ∈ d, x.default = true) (h3 : SSE d) (h4 : d = [] ∨ (whole3 d = true ∧ d.any isM = true)) : (∀ x ∈ ownE mode d, textOK x = true) ∧ (∀ x ∈ ownE mode d, x.default = false) ∧ SSE (ownE mode d) ∧ whole3 (ownE mode d) = true ∧ (ownE mode d).any isM = true ∧ (ownE mode d).length ≤ d.length + 4 := by
 rcases h4 with rfl | ⟨w, m⟩
 ·have hp : ∀ x ∈ plainE mode, textOK x = true ∧ x.default = false := fun x hx => by
   unfold plainE at hx
   have t : ∀ (k : Int) (b : Int), (k = 1 ∨ k = 3 ∨ k = 5 ∨ k = 6) → 0 ≤ b ∧ b ≤ 7 → textOK ⟨k, false, ByteArray.empty, b⟩ = true := fun k b hk hb => by
    unfold textOK namedE
    dsimp only
    rw [decide_eq_true hb.1, decide_eq_true hb.2]
    rcases hk with rfl | rfl | rfl | rfl <;> rfl
   simp only [List.mem_cons, List.not_mem_nil, or_false] at hx
   rcases hx with rfl | rfl | rfl | rfl
   ·exact ⟨t _ _ (by decide) (dg_le ..), rfl⟩
   ·exact ⟨t _ _ (by decide) (dg_le ..), rfl⟩
   ·exact ⟨t _ _ (by decide) (dg_le ..), rfl⟩
   ·exact ⟨t _ _ (by decide) (dg_le ..), rfl⟩
  refine ⟨fun x hx => (hp x hx).1, fun x hx => (hp x hx).2, ?_, rfl, rfl, Nat.le_refl 4⟩
  show SSE (plainE mode)
  unfold SSE plainE
  simp only [List.pairwise_cons, List.mem_cons, List.not_mem_nil, or_false, forall_eq_or_imp, forall_eq, false_imp_iff, implies_true, and_true, List.Pairwise.nil]
  exact ⟨⟨kind_lt rfl (show (1 : Int) < 3 by decide), kind_lt rfl (show (1 : Int) < 5 by decide), kind_lt rfl (show (1 : Int) < 6 by decide)⟩, ⟨kind_lt rfl (show (3 : Int) < 5 by decide), kind_lt rfl (show (3 : Int) < 6 by decide)⟩, kind_lt rfl (show (5 : Int) < 6 by decide)⟩
 ·have hne : d.isEmpty = false := by
   cases d with
   | nil => cases m
   | cons x l => rfl
  have e : ownE mode d = d.map (inhE mode) := by
   unfold ownE
   rw [hne, if_neg (by decide)]
  have hany : ∀ k : Int, has k (d.map (inhE mode)) = has k d := fun k => by
   unfold has
   rw [List.any_map]
   rfl
  rw [e]
  refine ⟨fun x hx => ?_, fun x hx => ?_, ?_, ?_, ?_, by rw [List.length_map]; omega⟩
  ·obtain ⟨y, hy, rfl⟩ := List.mem_map.1 hx
   exact inh_text (h1 y hy)
  ·obtain ⟨y, hy, rfl⟩ := List.mem_map.1 hx
   rfl
  ·refine List.pairwise_map.2 (List.Pairwise.imp_of_mem (fun {a b} ha hb h => ?_) h3)
   rw [inh_cf (h2 a ha) (h2 b hb)]
   exact h
  ·unfold whole3 at *
   rw [hany, hany, hany]
   exact w
  ·rw [isM_has, hany, ← isM_has]
   exact m
def newE (mode : Int) (dir : Bool) (d : List GEntry) : List GEntry := ownE mode d ++ (if dir then d else [])
theorem acl_len {l : List GFile} (hb : ∀ x ∈ l, lineB x = true) {x : GFile} (hx : x ∈ l) : x.acl.length ≤ 15 := by
 have := hb x hx
 unfold lineB at this
 rw [Bool.and_eq_true] at this
 exact of_decide_eq_true this.1
theorem new_ok2 {mode : Int} {dir : Bool} {es : List GEntry} (h : OKE es = true) (hl : (defE es).length ≤ 16) : OKE (newE mode dir (defE es)) = true ∧ allE (newE mode dir (defE es)) = newE mode dir (defE es) ∧ (newE mode dir (defE es)).length ≤ 40 ∧ defE (newE mode dir (defE es)) = if dir then defE es else [] := by
 obtain ⟨h1, h2, h3, h4, _⟩ := def_ok h
 generalize defE es = D at *
 obtain ⟨o1, o2, o3, o4, o5, o6⟩ := own_ok (mode := mode) h1 h2 h3 h4
 have key : OKE (newE mode dir D) = true ∧ allE (newE mode dir D) = newE mode dir D := by
  unfold newE
  cases dir with
  | true => exact oke_app o1 o2 o3 o4 o5 h1 h2 h3 h4 (by rw [if_pos rfl]; omega)
  | false => exact oke_app o1 o2 o3 o4 o5 (fun x hx => by cases hx) (fun x hx => by cases hx) List.Pairwise.nil (.inl rfl) (by rw [if_neg (by decide)]; simp; omega)
 refine ⟨key.1, key.2, ?_, ?_⟩
 ·unfold newE
  rw [List.length_append]
  cases dir
  ·simp; omega
  ·simp; omega
 ·unfold defE
  rw [key.2]
  unfold newE
  rw [fl_app, fl_none (d := true) o2, List.nil_append]
  cases dir with
  | true => exact fl_same h2
  | false => rfl
theorem nameU : ∀ u ∈ [pU, pV, pW], nameB u = true ∧ u.size ≤ 10 := by decide
theorem nameG : ∀ u ∈ [pG, pH], nameB u = true ∧ u.size ≤ 10 := by decide
theorem new_gen {l : List GFile} (hg : GoodL l) (hl : l.length ≤ 7000) {p : ByteArray} (p1 : pathL p.data.toList = true) (p2 : p ≠ { data := #[47] }) {o g : ByteArray} (ho : o ∈ [pU, pV, pW]) (hgr : g ∈ [pG, pH]) (dir : Bool) {mode : Int} (hm : 0 ≤ mode ∧ mode ≤ 511) (hno : (findF l p).2 = false) {X : GFile} (hX : findF l (parentT p) = (X, true)) (hk3 : X.kind = 3) (hd16 : (defE X.acl).length ≤ 16) :
  gain_New NF l dir p o g mode = some (⟨if dir then 3 else 4, p, [], o, g, newE mode dir (defE X.acl), 0⟩, 0) := by
 have hNF : NF = 30000 := rfl
 have hk : ∀ f ∈ l, f.kind ≤ 4 := fun f hf => (hg.1 f hf).1.2
 have hf1 := gfind_some (n := NF) (l := l) (p := p) (by omega) (by omega) hk
 have hf2 := gfind_some (n := NF) (l := l) (p := parentT p) (by omega) (by omega) hk
 have hpar : acls_Parent NF p = some (parentT p) := by
  rcases parent_cases p1 with ⟨h, _⟩ | ⟨_, h, _⟩
  ·exact absurd h p2
  ·exact h
 have n1 : atom_Name NF o = some true := by
  obtain ⟨a, b⟩ := nameU o ho
  rw [atomName_some _ (by omega) (by omega), a]
 have n2 : atom_Name NF g = some true := by
  obtain ⟨a, b⟩ := nameG g hgr
  rw [atomName_some _ (by omega) (by omega), a]
 obtain ⟨m1, m2, m3⟩ := findF_mem (l := l) (p := parentT p) (by rw [hX])
 rw [hX] at m1 m2 m3
 dsimp only at m1 m2 m3
 unfold gain_New
 rw [aclsPath_some p1 (by omega), Zo, if_pos rfl, n1, Zo, if_pos rfl, n2, Zo, if_pos rfl, decide_eq_false (show ¬ mode < 0 by omega), if_neg (by decide), Zo, decide_eq_false (show ¬ 511 < mode by omega), if_neg (by decide), hf1, Zo, hno, if_neg (by decide), hpar, Zo, hf2, Zo, hX]
 have ho := oke_item hg m1 m2
 have hal : X.acl.length ≤ 100 := (hg.1 X m1).2.2.2.1
 obtain ⟨_, _, _, _, _, hlen⟩ := oke_iff ho
 have hI : gain_New_C1_gain_inherited NF mode (allE X.acl, true) = some ((defE X.acl).map (inhE mode)) := inh_some (t := (allE X.acl, true)) (by dsimp only; omega) (by dsimp only; omega)
 dsimp only
 rw [if_pos rfl, hk3, show ((3 : Int) != 3) = false from rfl, if_neg (by decide), acl18_some ho (by omega), Zo, hI, Zo]
 obtain ⟨k1, k2, k3, _⟩ := new_ok2 (mode := mode) (dir := dir) ho hd16
 have hM : mask_Acl NF (newE mode dir (defE X.acl)) = some (newE mode dir (defE X.acl), true) := by rw [acl18_some k1 (by omega), k2]
 have hD : gain_byDefault NF (allE X.acl) = some (defE X.acl) := def_some (by omega) (by omega)
 rw [List.length_map]
 unfold newE ownE at hM ⊢
 cases hE : (defE X.acl) with
 | nil =>
  rw [hE] at hM hD
  rw [show ((([] : List GEntry).length : Int) == 0) = true from rfl, if_pos rfl, plain_some, Zo]
  cases dir with
  | true =>
   rw [if_pos rfl, hD, Zo, appS (by unfold plainE; simp), Zo]
   have hM : mask_Acl NF (plainE mode ++ []) = some (plainE mode ++ [], true) := hM
   rw [hM]
   rfl
  | false =>
   rw [if_neg (by decide)]
   have hM : mask_Acl NF (plainE mode ++ []) = some (plainE mode ++ [], true) := hM
   rw [List.append_nil] at hM
   rw [hM, Zo, if_pos rfl]
   show _ = some ((⟨4, p, [], _, _, plainE mode ++ [], 0⟩ : GFile), _)
   rw [List.append_nil]
 | cons e es =>
  rw [hE] at hM hD hd16
  have hn : (((e :: es).length : Int) == 0) = false := beq_eq_false_iff_ne.2 (by rw [List.length_cons]; omega)
  rw [hn, if_neg (by decide)]
  cases dir with
  | true =>
   have hM : mask_Acl NF ((e :: es).map (inhE mode) ++ (e :: es)) = some ((e :: es).map (inhE mode) ++ (e :: es), true) := hM
   rw [if_pos rfl, hD, Zo, decide_eq_false (by simp), if_neg (by decide), appS (by rw [List.length_map]; omega), Zo, hM]
   rfl
  | false =>
   have hM : mask_Acl NF ((e :: es).map (inhE mode) ++ []) = some ((e :: es).map (inhE mode) ++ [], true) := hM
   rw [List.append_nil] at hM
   rw [if_neg (by decide), hM, Zo, if_pos rfl]
   show _ = some ((⟨4, p, [], _, _, (e :: es).map (inhE mode) ++ [], 0⟩ : GFile), _)
   rw [List.append_nil]
theorem new_twice {l : List GFile} (hg : GoodL l) (hl : l.length ≤ 7000) {p : ByteArray} (p1 : pathL p.data.toList = true) {o g : ByteArray} (ho : o ∈ [pU, pV, pW]) (hgr : g ∈ [pG, pH]) (dir : Bool) {mode : Int} (hm : 0 ≤ mode ∧ mode ≤ 511) (hin : (findF l p).2 = true) : ∃ x, gain_New NF l dir p o g mode = some (x, 11) := by
 have hNF : NF = 30000 := rfl
 have hk : ∀ f ∈ l, f.kind ≤ 4 := fun f hf => (hg.1 f hf).1.2
 have hf1 := gfind_some (n := NF) (l := l) (p := p) (by omega) (by omega) hk
 have n1 : atom_Name NF o = some true := by
  obtain ⟨a, b⟩ := nameU o ho
  rw [atomName_some _ (by omega) (by omega), a]
 have n2 : atom_Name NF g = some true := by
  obtain ⟨a, b⟩ := nameG g hgr
  rw [atomName_some _ (by omega) (by omega), a]
 unfold gain_New
 rw [aclsPath_some p1 (by omega), Zo, if_pos rfl, n1, Zo, if_pos rfl, n2, Zo, if_pos rfl, decide_eq_false (show ¬ mode < 0 by omega), if_neg (by decide), Zo, decide_eq_false (show ¬ 511 < mode by omega), if_neg (by decide), hf1, Zo, hin, if_pos rfl]
 exact ⟨_, rfl⟩
theorem told_app {l : List GFile} {z : GFile} {k : Int} {nm : ByteArray} (h : toldB l k nm = true) : toldB (l ++ [z]) k nm = true := by
 unfold toldB at *
 rw [List.any_append, h, Bool.true_or]
theorem unknown_app {l : List GFile} {z x : GFile} (h : unknownB l x = false) : unknownB (l ++ [z]) x = false := by
 have hn : ∀ (k : Int) (nm : ByteArray), (!toldB l k nm) = false → (!toldB (l ++ [z]) k nm) = false := fun k nm h => by
  rw [told_app (by simpa using h)]
  rfl
 unfold unknownB at *
 simp only [Bool.or_eq_false_iff, Bool.and_eq_false_iff] at h ⊢
 obtain ⟨h1, h2⟩ := h
 refine ⟨List.any_eq_false.2 fun u hu => ?_, h2.imp_right fun ⟨⟨a, b⟩, c⟩ => ⟨⟨hn _ _ a, hn _ _ b⟩, List.any_eq_false.2 fun e he => ?_⟩⟩
 ·have := List.any_eq_false.1 h1 u hu
  rw [hn _ _ (by simpa using this)]
  decide
 ·have := List.any_eq_false.1 c e he
  unfold badE at *
  simp only [Bool.or_eq_true, Bool.and_eq_true, not_or, not_and, Bool.not_eq_true] at this ⊢
  exact ⟨fun k => hn _ _ (this.1 k), fun k => hn _ _ (this.2 k)⟩
theorem place_app {l : List GFile} {z x : GFile} (h : okPlace l x = true) : okPlace (l ++ [z]) x = true := by
 unfold okPlace at *
 split
 ·next h1 => rw [if_pos h1] at h; exact h
 ·next h1 =>
  rw [if_neg h1] at h
  simp only [Bool.or_eq_true] at h ⊢
  exact h.imp_right told_app
theorem good_app {l : List GFile} (hg : GoodL l) {z : GFile} (hz : goodF z) (hn : ∀ x ∈ l, x.name ≠ z.name) (hu : unknownB l z = false) (hi : okItem z = true) (hp : okPlace l z = true) : GoodL (l ++ [z]) := by
 obtain ⟨h1, h2⟩ := hg
 have hc : ∀ {P : GFile → Prop}, (∀ x ∈ l, P x) → P z → ∀ x ∈ l ++ [z], P x := fun h1 h2 x hx => by
  rcases List.mem_append.1 hx with h | h
  ·exact h1 x h
  ·rw [List.mem_singleton.1 h]
   exact h2
 refine ⟨hc h1 hz, ⟨fun i x hx y hy => ?_, hc (fun x hx => unknown_app (h2.known x hx)) (unknown_app hu), hc h2.items hi, hc (fun x hx => place_app (h2.place x hx)) (place_app hp)⟩⟩
 by_cases hil : i < l.length
 ·rw [List.getElem?_append_left hil] at hx
  rw [List.take_append_of_le_length (by omega)] at hy
  exact h2.apart i x hx y hy
 ·have hi2 : i = l.length := by
   have := (List.getElem?_eq_some_iff.1 hx).1
   rw [List.length_append, List.length_singleton] at this
   omega
  subst hi2
  rw [List.getElem?_append_right (Nat.le_refl _), Nat.sub_self, List.getElem?_cons_zero, Option.some.injEq] at hx
  subst hx
  rw [List.take_append_of_le_length (Nat.le_refl _), List.take_length] at hy
  unfold clash
  rw [decide_eq_false (hn y hy)]
  rfl
theorem findF_app_no {l : List GFile} {z : GFile} {p : ByteArray} (h : (findF l p).2 = true) : findF (l ++ [z]) p = findF l p := by
 unfold findF at *
 rw [List.find?_append]
 cases hf : l.find? (fun f => itemB f && decide (f.name = p)) with
 | none => rw [hf] at h; cases h
 | some x => rfl
theorem findF_none {l : List GFile} {p : ByteArray} (h : ∀ x ∈ l, x.name ≠ p) : (findF l p).2 = false := by
 cases hf : (findF l p).2 with
 | false => rfl
 | true =>
  obtain ⟨m1, _, m3⟩ := findF_mem hf
  exact absurd m3 (h _ m1)
theorem findF_new {l : List GFile} {z : GFile} {p : ByteArray} (h : ∀ x ∈ l, x.name ≠ p) (hz : itemB z = true) (hp : z.name = p) : findF (l ++ [z]) p = (z, true) := by
 have h0 : l.find? (fun f => itemB f && decide (f.name = p)) = none := List.find?_eq_none.2 fun x hx => by
  rw [decide_eq_false (h x hx), Bool.and_false]
  decide
 unfold findF
 rw [List.find?_append, h0]
 rw [List.find?_cons, hz, decide_eq_true hp]
 rfl
end Go.Proofs.YtgmhbmcdlkajdaaGreatDoor.Ab
