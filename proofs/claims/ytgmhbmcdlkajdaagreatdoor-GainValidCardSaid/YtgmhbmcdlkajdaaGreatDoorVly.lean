/-
  The laws' valid policies: they are there, and valid. No program in sight.
-/
import Derived.Test.YtgmhbmcdlkajdaaGreatDoorVlx
namespace Go.Proofs.YtgmhbmcdlkajdaaGreatDoor.Ab
open Go.RowKit
def clsF (f : GFile) : Int × ByteArray := (if itemB f then 3 else f.kind, f.name)
theorem clash_cls {y x : GFile} (h : clash y x = true) : clsF y = clsF x := by
  unfold clash at h
  simp only [Bool.and_eq_true, Bool.or_eq_true, decide_eq_true_eq, beq_iff_eq] at h
  obtain ⟨h1, h2, _⟩ := h
  unfold clsF
  rw [h1]
  rcases h2 with h2 | ⟨h2, h3⟩
  · rw [h2, show itemB y = itemB x by unfold itemB; rw [h2]]
  · rw [h2, h3, if_pos rfl, if_pos rfl]
theorem apart_nodup {l : List GFile} (h : (l.map clsF).Nodup) : ∀ (i : Nat) (x : GFile), l[i]? = some x → ∀ y ∈ l.take i, clash y x = false := by
  intro i x hx y hy
  obtain ⟨j, hj⟩ := List.getElem?_of_mem hy
  have hjl := (List.getElem?_eq_some_iff.1 hj).1
  rw [List.length_take] at hjl
  rw [List.getElem?_take_of_lt (by omega)] at hj
  refine Bool.eq_false_iff.2 fun hc => ?_
  obtain ⟨a1, a2⟩ := List.getElem?_eq_some_iff.1 hj
  obtain ⟨b1, b2⟩ := List.getElem?_eq_some_iff.1 hx
  have := List.pairwise_iff_getElem.1 h j i (by rw [List.length_map]; exact a1) (by rw [List.length_map]; exact b1) (by omega)
  rw [List.getElem_map, List.getElem_map, a2, b2] at this
  exact this (clash_cls hc)
theorem lastD_false {es : List GEntry} (h : ∀ e ∈ es, e.default = false) : lastD es = false := by
  unfold lastD
  cases hl : (allE es)[(allE es).length - 1]? with
  | none => rfl
  | some e =>
    have hm := (allE_perm es).mem_iff.1 (List.mem_of_getElem? hl)
    have ht : (fl true es).isEmpty = true := by
      rw [List.isEmpty_iff]
      exact List.filter_eq_nil_iff.2 fun x hx => by rw [h x hx]; decide
    rw [ht, if_pos rfl, List.append_nil] at hm
    rcases List.mem_append.1 hm with h1 | h1
    · exact h e h1
    · exact maskE_def h1
def pU : ByteArray := { data := #[117] }
def pV : ByteArray := { data := #[118] }
def pW : ByteArray := { data := #[119] }
def pG : ByteArray := { data := #[103] }
def pH : ByteArray := { data := #[104] }
theorem parents : parentT (bA [47, 97]) = bA [47] ∧ parentT (bA [47, 97, 47, 99]) = bA [47, 97] ∧ parentT (bA [47, 102]) = bA [47] ∧ parentT (bA [47, 97, 47, 102]) = bA [47, 97] ∧ parentT (bA [47, 97, 47, 99, 47, 102]) = bA [47, 97, 47, 99] := ⟨by kernel_rfl, by kernel_rfl, by kernel_rfl, by kernel_rfl, by kernel_rfl⟩
theorem base_valid {W : List (List UInt8)} {X : List UInt8} (hx : isX X W) {fs : List GFile} (h : AllP (baseQ W) fs) : ValidF fs ∧ fs.length = 11 := by
  obtain ⟨f1, f2, f3, f4, f5, f6, f7, f8, f9, f10, f11, rfl⟩ : ∃ f1 f2 f3 f4 f5 f6 f7 f8 f9 f10 f11, fs = [f1, f2, f3, f4, f5, f6, f7, f8, f9, f10, f11] := by
    unfold baseQ at h
    rcases fs with _ | ⟨f1, fs⟩; · exact h.elim
    rcases fs with _ | ⟨f2, fs⟩; · exact h.2.elim
    rcases fs with _ | ⟨f3, fs⟩; · exact h.2.2.elim
    rcases fs with _ | ⟨f4, fs⟩; · exact h.2.2.2.elim
    rcases fs with _ | ⟨f5, fs⟩; · exact h.2.2.2.2.elim
    rcases fs with _ | ⟨f6, fs⟩; · exact h.2.2.2.2.2.elim
    rcases fs with _ | ⟨f7, fs⟩; · exact h.2.2.2.2.2.2.elim
    rcases fs with _ | ⟨f8, fs⟩; · exact h.2.2.2.2.2.2.2.elim
    rcases fs with _ | ⟨f9, fs⟩; · exact h.2.2.2.2.2.2.2.2.elim
    rcases fs with _ | ⟨f10, fs⟩; · exact h.2.2.2.2.2.2.2.2.2.elim
    rcases fs with _ | ⟨f11, fs⟩; · exact h.2.2.2.2.2.2.2.2.2.2.elim
    rcases fs with _ | ⟨f12, fs⟩
    · exact ⟨_, _, _, _, _, _, _, _, _, _, _, rfl⟩
    · exact h.2.2.2.2.2.2.2.2.2.2.2.elim
  obtain ⟨q1, q2, q3, q4, q5, q6, q7, q8, q9, q10, q11, _⟩ := h
  have tu : ∀ u ∈ [pU, pV, pW], toldB [f1, f2, f3, f4, f5, f6, f7, f8, f9, f10, f11] 1 u = true := by
    intro u hu
    simp only [List.mem_cons, List.not_mem_nil, or_false] at hu
    rcases hu with rfl | rfl | rfl
    · exact List.any_eq_true.2 ⟨f1, by simp, by rw [q1]; rfl⟩
    · exact List.any_eq_true.2 ⟨f2, by simp, by rw [q2]; rfl⟩
    · exact List.any_eq_true.2 ⟨f3, by simp, by rw [q3]; rfl⟩
  have tg : ∀ g ∈ [pG, pH], toldB [f1, f2, f3, f4, f5, f6, f7, f8, f9, f10, f11] 2 g = true := by
    intro g hg
    simp only [List.mem_cons, List.not_mem_nil, or_false] at hg
    rcases hg with rfl | rfl
    · exact List.any_eq_true.2 ⟨f4, by simp, by rw [q4]; rfl⟩
    · exact List.any_eq_true.2 ⟨f5, by simp, by rw [q5]; rfl⟩
  have td : ∀ p ∈ [bA [47], bA [47, 97], bA [47, 97, 47, 99]], toldB [f1, f2, f3, f4, f5, f6, f7, f8, f9, f10, f11] 3 p = true := by
    intro p hp
    simp only [List.mem_cons, List.not_mem_nil, or_false] at hp
    rcases hp with rfl | rfl | rfl
    · exact List.any_eq_true.2 ⟨f6, by simp, by rw [q6.1]; rfl⟩
    · exact List.any_eq_true.2 ⟨f7, by simp, by rw [q7.1]; rfl⟩
    · exact List.any_eq_true.2 ⟨f8, by simp, by rw [q8.1]; rfl⟩
  generalize hL : [f1, f2, f3, f4, f5, f6, f7, f8, f9, f10, f11] = L at tu tg td
  have hno : ∀ (us : List ByteArray), (∀ u ∈ us, u ∈ [pU, pV, pW]) → us.any (fun u => !toldB L 1 u) = false := fun us h => List.any_eq_false.2 fun u hu => by rw [tu u (h u hu)]; decide
  have hbad : ∀ {f : GFile}, (∀ e ∈ f.acl, nameK e) → f.acl.any (badE L) = false := fun {f} h => List.any_eq_false.2 fun e he => by
    obtain ⟨h1, h2⟩ := h e he
    unfold badE
    intro hc
    simp only [Bool.or_eq_true, Bool.and_eq_true, beq_iff_eq, Bool.not_eq_true'] at hc
    rcases hc with ⟨k, t⟩ | ⟨k, t⟩
    · rw [tu _ (h1 k)] at t; cases t
    · rw [tg _ (h2 k)] at t; cases t
  have hitm : ∀ {f : GFile} {k : Int} {p o g : List UInt8} {d : Bool}, isItm k p o g d f → 3 ≤ k → bA o ∈ [pU, pV, pW] → bA g ∈ [pG, pH] → (k = 4 → d = false) → okPlace L ⟨k, bA p, [], bA o, bA g, f.acl, f.at_⟩ = true → unknownB L f = false ∧ okItem f = true ∧ okPlace L f = true := by
    intro f k p o g d ⟨e, ok, hd, hn, _⟩ hk ho hg hkd hpl
    refine ⟨?_, ?_, by rw [e]; exact hpl⟩
    · unfold unknownB
      rw [hbad hn]
      rw [e]
      simp only [List.any_nil, Bool.false_or, Bool.or_false]
      rw [tu _ ho, tg _ hg]
      simp
    · unfold okItem
      rw [ok]
      cases hk4 : (f.kind == 4) with
      | false => simp
      | true =>
        have : k = 4 := by
          have h := eq_of_beq hk4
          rw [e] at h
          exact h
        rw [lastD_false (hd (hkd this))]
        simp
  have husr : ∀ {f : GFile} {u : List UInt8}, isUsr u f → bA u ≠ bA [47] → unknownB L f = false ∧ okItem f = true ∧ okPlace L f = true := by
    intro f u e hu
    have hi : itemB f = false := by rw [e]; rfl
    refine ⟨?_, ?_, ?_⟩
    · unfold unknownB
      rw [hi, e]
      rfl
    · unfold okItem
      rw [hi]
      rfl
    · unfold okPlace
      rw [hi, e]
      rw [show decide (bA u = { data := #[47] }) = false from decide_eq_false hu]
      rfl
  have hgrp : ∀ {f : GFile} {g : List UInt8} {us : List (List UInt8)}, isGrp g us f → bA g ≠ bA [47] → (∀ u ∈ us.map bA, u ∈ [pU, pV, pW]) → unknownB L f = false ∧ okItem f = true ∧ okPlace L f = true := by
    intro f g us e hg hu
    have hi : itemB f = false := by rw [e]; rfl
    refine ⟨?_, ?_, ?_⟩
    · unfold unknownB
      rw [hi, e]
      dsimp only
      rw [hno _ hu]
      rfl
    · unfold okItem
      rw [hi]
      rfl
    · unfold okPlace
      rw [hi, e]
      rw [show decide (bA g = { data := #[47] }) = false from decide_eq_false hg]
      rfl
  have hW : ∀ u ∈ W.map bA, u ∈ [pU, pV, pW] := by
    rcases hx with ⟨_, rfl⟩ | ⟨_, rfl⟩ | ⟨_, rfl⟩ | ⟨_, rfl⟩ <;> decide
  obtain ⟨p1, p2, p3, p4, p5⟩ := parents
  have pl : ∀ (k : Int) (p o g : ByteArray) (a : List GEntry) (v : Int), p ≠ bA [47] → toldB L 3 (parentT p) = true → okPlace L ⟨k, p, [], o, g, a, v⟩ = true := fun k p o g a v hp ht => by
    unfold okPlace
    rw [show decide (p = { data := #[47] }) = false from decide_eq_false hp]
    dsimp only
    rw [ht]
    simp
  have all : ∀ f ∈ L, unknownB L f = false ∧ okItem f = true ∧ okPlace L f = true := by
    intro f hf
    rw [← hL] at hf
    simp only [List.mem_cons, List.not_mem_nil, or_false] at hf
    rcases hf with rfl | rfl | rfl | rfl | rfl | rfl | rfl | rfl | rfl | rfl | rfl
    · exact husr q1 (by decide)
    · exact husr q2 (by decide)
    · exact husr q3 (by decide)
    · exact hgrp q4 (by decide) (by decide)
    · exact hgrp q5 (by decide) hW
    · exact hitm q6 (by decide) (by decide) (by decide) (by decide) rfl
    · exact hitm q7 (by decide) (by decide) (by decide) (by decide) (pl _ _ _ _ _ _ (by decide) (by rw [p1]; exact td _ (by decide)))
    · exact hitm q8 (by decide) (by decide) (by decide) (by decide) (pl _ _ _ _ _ _ (by decide) (by rw [p2]; exact td _ (by decide)))
    · exact hitm q9 (by decide) (by decide) (by decide) (fun _ => rfl) (pl _ _ _ _ _ _ (by decide) (by rw [p3]; exact td _ (by decide)))
    · exact hitm q10 (by decide) (by decide) (by decide) (fun _ => rfl) (pl _ _ _ _ _ _ (by decide) (by rw [p4]; exact td _ (by decide)))
    · exact hitm q11 (by decide) (by decide) (by decide) (fun _ => rfl) (pl _ _ _ _ _ _ (by decide) (by rw [p5]; exact td _ (by decide)))
  refine ⟨⟨apart_nodup ?_, fun x hx => (all x hx).1, fun x hx => (all x hx).2.1, fun x hx => (all x hx).2.2⟩, by rw [← hL]; rfl⟩
  have e : L.map clsF = [(1, bA [117]), (1, bA [118]), (1, bA [119]), (2, bA [103]), (2, bA [104]), (3, bA [47]), (3, bA [47, 97]), (3, bA [47, 97, 47, 99]), (3, bA [47, 102]), (3, bA [47, 97, 47, 102]), (3, bA [47, 97, 47, 99, 47, 102])] := by
    rw [← hL, q1, q2, q3, q4, q5, q6.1, q7.1, q8.1, q9.1, q10.1, q11.1]
    rfl
  rw [e]
  decide
theorem tsz {β : Type} {a b : ByteArray} {p q : Nat} {f : ByteArray → Option β} {R : β → Prop} (h1 : a.size ≤ p) (h2 : b.size ≤ q) (hp : p + q ≤ 100000) (k : ∀ s : ByteArray, s.size ≤ p + q → Tot (f s) R) : Tot ((cat a b).bind f) R :=
  tot_bind (tot_cat h1 h2 (by have : maxLen ≥ 100000 := by decide
                              omega)) k
theorem acl_size {n : Nat} (hn : 10 < n) (t : Int) (d : Bool) : Tot (law17_Acl n t d) fun s => s.size ≤ 150 := (acl_text hn t d).mono fun s ⟨is, hg, ha⟩ => by
  have := ha.len
  unfold goodIs at hg
  simp only [Bool.and_eq_true, decide_eq_true_eq] at hg
  rw [← bsize]
  omega
theorem line17_tot {n : Nat} (hn : 10 < n) (t : Int) : Tot (law17_Line n t) fun s => s.size ≤ 250 := by
  unfold law17_Line
  refine tot_bind (tot_tm (m := 3) (by decide) rfl (Q := fun s => s.size ≤ 1) (by decide)) fun x hx => ?_
  refine tot_bind (tot_an (m := 1) (by decide) (by decide) rfl (Q := fun s => s.size ≤ 1) (by decide)) fun x2 hx2 => ?_
  refine tot_bind (tot_tm (m := 5) (by decide) rfl (Q := fun s => s.size ≤ 6) (by decide)) fun x3 hx3 => ?_
  generalize Int.tmod (IntKind.i64.wrap (an (sh t 17) 255 : Int)) 12 = m
  refine tot_bind (Q := fun (_ : Bool) => True) (tot_ite (fun _ => tot_some trivial) fun _ => tot_ite (fun _ => tot_some trivial) fun _ => tot_ite (fun _ => tot_some trivial) fun _ => tot_some trivial) fun _ _ => ?_
  refine tot_ite (fun _ => tsz (p := 5) (q := 6) (by decide) hx3 (by decide) fun s h => tsz (q := 1) h (by decide) (by decide) fun s h => tsz h hx (by decide) fun s h => tsz (q := 1) h (by decide) (by decide) fun s h => tsz h hx2 (by decide) fun s h => tsz (q := 1) h (by decide) (by decide) fun s h => tot_bind (acl_size hn _ _) fun a ha => tsz h ha (by decide) fun s h => tot_some (by omega)) fun _ => ?_
  refine tot_bind (Q := fun (_ : Bool) => True) (tot_ite (fun _ => tot_some trivial) fun _ => tot_ite (fun _ => tot_some trivial) fun _ => tot_ite (fun _ => tot_some trivial) fun _ => tot_some trivial) fun _ _ => ?_
  refine tot_ite (fun _ => tsz (p := 5) (q := 6) (by decide) hx3 (by decide) fun s h => tsz (q := 2) h (by decide) (by decide) fun s h => tsz h hx (by decide) fun s h => tsz (q := 1) h (by decide) (by decide) fun s h => tsz h hx2 (by decide) fun s h => tsz (q := 1) h (by decide) (by decide) fun s h => tot_bind (acl_size hn _ _) fun a ha => tsz h ha (by decide) fun s h => tot_some (by omega)) fun _ => ?_
  refine tot_ite (fun _ => tsz (p := 8) (by decide) hx (by decide) fun s h => tot_some (by omega)) fun _ => ?_
  refine tot_ite (fun _ => tot_some (by decide)) fun _ => ?_
  refine tot_ite (fun _ => ?_) fun _ => ?_
  · refine tot_bind (tot_an (m := 3) (by decide) (by decide) rfl (Q := fun s => s.size ≤ 6) (by decide)) fun x4 hx4 => ?_
    exact tsz (p := 5) (q := 6) (by decide) hx4 (by decide) fun s h => tsz (q := 1) h (by decide) (by decide) fun s h => tsz h hx (by decide) fun s h => tsz (q := 1) h (by decide) (by decide) fun s h => tsz h hx2 (by decide) fun s h => tsz (q := 1) h (by decide) (by decide) fun s h => tot_bind (acl_size hn _ _) fun a ha => tsz h ha (by decide) fun s h => tot_some (by omega)
  · exact tot_bind (tot_an (m := 7) (by decide) (by decide) rfl (Q := fun s => s.size ≤ 250) (by decide)) fun x5 h5 => tot_some h5
def GoodL (l : List GFile) : Prop := (∀ f ∈ l, goodF f) ∧ ValidF l
end Go.Proofs.YtgmhbmcdlkajdaaGreatDoor.Ab
