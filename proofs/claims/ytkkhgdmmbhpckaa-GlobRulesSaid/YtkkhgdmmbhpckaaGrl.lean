/-
  GlobRules: the plain law.
-/
import Derived.Test.YtkkhgdmmbhpckaaLra
namespace Go.Proofs.Ytkkhgdmmbhpckaa.Ab
open Go.RowKit

theorem fit_addS {p : Pol} (h : Small p) (n : Int) : FitPol (addS p (stmN n)) where
  users := (small_fit h).users
  acts := (small_fit h).acts
  ress := (small_fit h).ress
  grps := (small_fit h).grps
  gu := (small_fit h).gu
  stms := by have := h.stms; show (p.stms ++ [stmN n]).length < _; simp; omega
  su := fun s hs => by
    rcases List.mem_append.1 hs with hs | hs
    · exact (small_fit h).su s hs
    · obtain ⟨h1, h2, h3, h4⟩ := small_stm n
      rw [List.mem_singleton.1 hs]
      exact ⟨by show _ < _; omega, by show _ < _; omega, h3, h4⟩
  bnds := (small_fit h).bnds
  bu := (small_fit h).bu
theorem fit_addB {p : Pol} (h : Small p) (n : Int) : FitPol (addB p (bndN n)) where
  users := (small_fit h).users
  acts := (small_fit h).acts
  ress := (small_fit h).ress
  grps := (small_fit h).grps
  gu := (small_fit h).gu
  stms := (small_fit h).stms
  su := (small_fit h).su
  bnds := by have := h.bnds; show (p.bnds ++ [bndN n]).length < _; simp; omega
  bu := fun b hb => by
    rcases List.mem_append.1 hb with hb | hb
    · exact (small_fit h).bu b hb
    · rw [List.mem_singleton.1 hb]
      exact ⟨fitP_few _ lA 0 (by decide) lA_small, fitP_few _ lR 0 (by decide) lR_small⟩
theorem fit_flt {p : Pol} (h : Small p) : FitPol { p with stms := p.stms.filter (·.deny) } where
  users := (small_fit h).users
  acts := (small_fit h).acts
  ress := (small_fit h).ress
  grps := (small_fit h).grps
  gu := (small_fit h).gu
  stms := Nat.lt_of_le_of_lt (List.length_filter_le ..) (small_fit h).stms
  su := fun s hs => (small_fit h).su s (List.mem_filter.1 hs).1
  bnds := (small_fit h).bnds
  bu := (small_fit h).bu
theorem fit_all {p : Pol} (h : Small p) : FitPol (allP p) where
  users := (small_fit h).users
  acts := (small_fit h).acts
  ress := (small_fit h).ress
  grps := by show 0 < _; omega
  gu := fun g hg => by cases hg
  stms := by show 1 < _; omega
  su := fun s hs => by
    rw [List.mem_singleton.1 hs]
    exact ⟨(small_fit h).users, by show 0 < _; omega, ⟨by show 1 < _; omega, fun x hx => by rw [List.mem_singleton.1 hx]; decide⟩, ⟨by show 1 < _; omega, fun x hx => by rw [List.mem_singleton.1 hx]; decide⟩⟩
  bnds := by show 0 < _; omega
  bu := fun b hb => by cases hb
theorem app_some {α : Type} {xs ys : List α} (h : xs.length + ys.length ≤ 4294967296) : app xs ys = some (xs ++ ys) := if_pos h
theorem idx_some {α : Type} {xs : List α} {k : Nat} (h : k < xs.length) : idx xs (k : Int) = some xs[k] := by rw [idx_nat, List.getElem?_eq_getElem h]
def polS (p : Pol) (l : List Stm) : GPolicy := ⟨(ofPol p).users, (ofPol p).actions, (ofPol p).resources, (ofPol p).groups, l.map ofStm, (ofPol p).bounds⟩
def polBd (p : Pol) (l : List Bnd) : GPolicy := ⟨(ofPol p).users, (ofPol p).actions, (ofPol p).resources, (ofPol p).groups, (ofPol p).stmts, l.map ofBnd⟩
theorem to_polS (p : Pol) (l : List Stm) : toPol (polS p l) = { p with stms := l } := toPol_of { p with stms := l }
theorem to_polBd (p : Pol) (l : List Bnd) : toPol (polBd p l) = { p with bnds := l } := toPol_of { p with bnds := l }
section
variable {p q : Pol} (hs : Small p) (hq : Small q) (a : GAsk) (n : Nat)
include hs hq
theorem l1_ok : ∀ (c j : Nat), j ≤ q.stms.length → q.stms.length - j < c → law24_GlobRules_L1 n (ofPol p) a (ofPol q) c (mayB p a.who a.act a.obj, (j : Int)) = some (.inl (mayB p a.who a.act a.obj))
  | 0, _, _, h => by omega
  | c + 1, j, hj, hc => by
    have p8 := hs.stms
    have q8 := hq.stms
    have el : (ofPol q).stmts.length = q.stms.length := List.length_map ..
    have ep : (ofPol p).stmts.length = p.stms.length := List.length_map ..
    unfold law24_GlobRules_L1
    rw [el]
    by_cases hlt : j < q.stms.length
    · rw [dec_lt hlt, if_pos rfl, app_some (by rw [ep]; simp; omega), idx_some (by rw [el]; exact hlt)]
      simp only [Option.bind_some]
      rw [app_some (by rw [ep]; simp; omega)]
      simp only [Option.bind_some]
      obtain ⟨n', en⟩ := hq.su _ (List.getElem_mem hlt)
      have e1 : (ofPol q).stmts[j]'(by rw [el]; exact hlt) = ofStm q.stms[j] := List.getElem_map ..
      have e2 : (ofPol p).stmts ++ [ofStm q.stms[j]] = (p.stms ++ [q.stms[j]]).map ofStm := by rw [List.map_append]; rfl
      rw [e1, e2]
      have F : FitPol (toPol (polS p (p.stms ++ [q.stms[j]]))) := by rw [to_polS, en]; exact fit_addS hs n'
      have hm := may_some (n := n) a.who a.act a.obj F
      rw [to_polS] at hm
      unfold polS at hm
      rw [hm]
      simp only [Option.bind_some]
      have ma := may_addS p q.stms[j] a.who a.act a.obj
      have ih := l1_ok c (j + 1) (by omega) (by omega)
      rw [wrap_one (by omega)]
      show (if q.stms[j].deny = true then if mayB (addS p q.stms[j]) a.who a.act a.obj = true then if mayB p a.who a.act a.obj = true then law24_GlobRules_L1 n (ofPol p) a (ofPol q) c (true, ((j + 1 : Nat) : Int)) else some (.inr false) else law24_GlobRules_L1 n (ofPol p) a (ofPol q) c (mayB p a.who a.act a.obj, ((j + 1 : Nat) : Int)) else if mayB p a.who a.act a.obj = true then if mayB (addS p q.stms[j]) a.who a.act a.obj = true then law24_GlobRules_L1 n (ofPol p) a (ofPol q) c (true, ((j + 1 : Nat) : Int)) else some (.inr false) else law24_GlobRules_L1 n (ofPol p) a (ofPol q) c (false, ((j + 1 : Nat) : Int))) = _
      revert ma ih
      generalize mayB p a.who a.act a.obj = was
      generalize mayB (addS p q.stms[j]) a.who a.act a.obj = now
      generalize q.stms[j].deny = dn
      intro ma ih
      cases dn <;> cases now <;> cases was <;> first | exact ih | (exfalso; revert ma; decide)
    · rw [dec_nlt (by omega), if_neg (by simp)]
omit hq in
theorem l2_ok : ∀ (c j : Nat) (no : Bool), j ≤ p.bnds.length → p.bnds.length - j < c → law24_GlobRules_L2 n (ofPol p) a c (no, (j : Int)) = some (no && !((p.bnds.drop j).any fun b => eqS b.user a.who))
  | 0, _, _, _, h => by omega
  | c + 1, j, no, hj, hc => by
    have p8 := hs.bnds
    have el : (ofPol p).bounds.length = p.bnds.length := List.length_map ..
    unfold law24_GlobRules_L2
    rw [el]
    by_cases hlt : j < p.bnds.length
    · rw [dec_lt hlt, if_pos rfl, idx_some (by rw [el]; exact hlt), List.drop_eq_getElem_cons hlt]
      have e1 : (ofPol p).bounds[j]'(by rw [el]; exact hlt) = ofBnd p.bnds[j] := List.getElem_map ..
      rw [wrap_one (by omega), e1]
      simp only [Option.bind_some, List.any_cons]
      cases no
      · rw [if_neg (by simp), l2_ok c (j + 1) _ (by omega) (by omega)]
        simp
      · rw [if_pos rfl, l2_ok c (j + 1) _ (by omega) (by omega)]
        simp [ofBnd, eqS]
    · rw [dec_nlt (by omega), if_neg (by simp), List.drop_eq_nil_of_le (by omega)]
      simp
theorem l3_ok (no : Bool) (hno : no = !(p.bnds.any fun b => eqS b.user a.who)) : ∀ (c j : Nat), j ≤ q.bnds.length → q.bnds.length - j < c → law24_GlobRules_L3 n (ofPol p) a (ofPol q) c (mayB p a.who a.act a.obj, no, (j : Int)) = some (.inl (mayB p a.who a.act a.obj))
  | 0, _, _, h => by omega
  | c + 1, j, hj, hc => by
    have p8 := hs.bnds
    have q8 := hq.bnds
    have el : (ofPol q).bounds.length = q.bnds.length := List.length_map ..
    have ep : (ofPol p).bounds.length = p.bnds.length := List.length_map ..
    unfold law24_GlobRules_L3
    rw [el]
    by_cases hlt : j < q.bnds.length
    · rw [dec_lt hlt, if_pos rfl, app_some (by rw [ep]; simp; omega), idx_some (by rw [el]; exact hlt)]
      simp only [Option.bind_some]
      rw [app_some (by rw [ep]; simp; omega)]
      simp only [Option.bind_some]
      obtain ⟨n', en⟩ := hq.bu _ (List.getElem_mem hlt)
      have e1 : (ofPol q).bounds[j]'(by rw [el]; exact hlt) = ofBnd q.bnds[j] := List.getElem_map ..
      have e2 : (ofPol p).bounds ++ [ofBnd q.bnds[j]] = (p.bnds ++ [q.bnds[j]]).map ofBnd := by rw [List.map_append]; rfl
      rw [e1, e2]
      have F : FitPol (toPol (polBd p (p.bnds ++ [q.bnds[j]]))) := by rw [to_polBd, en]; exact fit_addB hs n'
      have hm := may_some (n := n) a.who a.act a.obj F
      rw [to_polBd] at hm
      unfold polBd at hm
      rw [hm]
      simp only [Option.bind_some]
      have ma := may_addB p q.bnds[j] a.who a.act a.obj
      have ih := l3_ok no hno c (j + 1) (by omega) (by omega)
      rw [wrap_one (by omega)]
      have hn : (p.bnds.any fun b => eqS b.user a.who) = !no := by rw [hno]; simp
      rw [hn] at ma
      have mb : ((!no) = false → mayB (addB p q.bnds[j]) a.who a.act a.obj = true → mayB p a.who a.act a.obj = true) ∧ ((q.bnds[j].user.toList == a.who.toList) = false → mayB (addB p q.bnds[j]) a.who a.act a.obj = mayB p a.who a.act a.obj) := ma
      clear ma hn hno
      show (if no = true then if mayB (addB p q.bnds[j]) a.who a.act a.obj = true then if mayB p a.who a.act a.obj = true then if (q.bnds[j].user.toList == a.who.toList) = true then law24_GlobRules_L3 n (ofPol p) a (ofPol q) c (true, true, ((j + 1 : Nat) : Int)) else law24_GlobRules_L3 n (ofPol p) a (ofPol q) c (true, true, ((j + 1 : Nat) : Int)) else some (.inr false) else if (q.bnds[j].user.toList == a.who.toList) = true then law24_GlobRules_L3 n (ofPol p) a (ofPol q) c (mayB p a.who a.act a.obj, true, ((j + 1 : Nat) : Int)) else if (false == mayB p a.who a.act a.obj) = true then law24_GlobRules_L3 n (ofPol p) a (ofPol q) c (mayB p a.who a.act a.obj, true, ((j + 1 : Nat) : Int)) else some (.inr false) else if (q.bnds[j].user.toList == a.who.toList) = true then law24_GlobRules_L3 n (ofPol p) a (ofPol q) c (mayB p a.who a.act a.obj, false, ((j + 1 : Nat) : Int)) else if (mayB (addB p q.bnds[j]) a.who a.act a.obj == mayB p a.who a.act a.obj) = true then law24_GlobRules_L3 n (ofPol p) a (ofPol q) c (mayB p a.who a.act a.obj, false, ((j + 1 : Nat) : Int)) else some (.inr false)) = _
      revert mb ih
      generalize mayB p a.who a.act a.obj = was
      generalize mayB (addB p q.bnds[j]) a.who a.act a.obj = now
      generalize (q.bnds[j].user.toList == a.who.toList) = sm
      intro ih mb
      cases no <;> cases now <;> cases was <;> cases sm <;> first | exact ih | (exfalso; revert mb; decide)
    · rw [dec_nlt (by omega), if_neg (by simp)]
omit hq in
theorem l4_ok : law24_GlobRules_L4 n (ofPol p) 100 ([], 0) = some ((p.stms.filter (·.deny)).map ofStm) := by
  have p8 := hs.stms
  have ep : (ofPol p).stmts.length = p.stms.length := List.length_map ..
  have key : ∀ (l : List Stm) (acc : List GStmt), acc.length + l.length ≤ 4294967296 → foldK (law24_GlobRules_L4_f n (ofPol p)) (law24_GlobRules_L4_e n (ofPol p)) (l.map ofStm) acc = some (acc ++ (l.filter (·.deny)).map ofStm) := by
    intro l
    induction l with
    | nil => intro acc _; simp [foldK, law24_GlobRules_L4_e]
    | cons s r ih =>
      intro acc h
      simp only [List.map_cons, foldK, law24_GlobRules_L4_f]
      simp only [List.length_cons] at h
      show (if s.deny = true then _ else _) = _
      cases hd : s.deny
      · rw [if_neg (by simp), ih acc (by omega), List.filter_cons_of_neg (by simp [hd])]
      · have e : (⟨(ofStm s).sid, true, (ofStm s).users, (ofStm s).groups, (ofStm s).actions, (ofStm s).resources⟩ : GStmt) = ofStm s := by rw [← hd]; rfl
        rw [if_pos rfl, app_some (by simp; omega)]
        simp only [Option.bind_some]
        rw [e, ih _ (by simp; omega), List.filter_cons_of_pos (by simp [hd])]
        simp
  have := law24_GlobRules_L4_list n (ofPol p) (by rw [ep]; omega) 100 [] 0 (by omega) (by rw [ep]; omega)
  refine this.trans ?_
  rw [List.drop_zero]
  exact (key p.stms [] (by simp; omega)).trans (by simp)
end
end Go.Proofs.Ytkkhgdmmbhpckaa.Ab
