/-
 Open orders: the order of the text is enough.
-/
import Derived.Test.YtjkdbakgnnhdnaaAbE
namespace Go.Proofs.Ytjkdbakgnnhdnaa.Ab
open Go.RowKit
section
variable {P : Program} {tab : Nat → TI}
theorem meet_true {xs ys : List Nat} {x : Nat} (h1 : x ∈ xs) (h2 : x ∈ ys) : meet xs ys = true := List.any_eq_true.2 ⟨x, h1, by simpa using h2⟩
theorem early_at {ops : Array Oper} (h : early ops = true) {i : Nat} {o : Oper} (ho : ops[i]? = some o) : ∀ k ∈ dirs o, k < i := by
 intro k hk
 have hm : (o, i) ∈ ops.toList.zipIdx := by
  rw [List.mem_iff_getElem?]
  exact ⟨i, by simp [List.getElem?_zipIdx, ho]⟩
 have := List.all_eq_true.1 (List.all_eq_true.1 h _ hm) k hk
 simpa using this
theorem dirs_mem {o : Oper} {e : Edge} (he : e ∈ o.after.toList) (hb : Region.binds .any e = true) : e.on ∈ dirs o := by
 unfold dirs
 exact List.mem_filterMap.2 ⟨e, he, by simp [hb]⟩
theorem pairs_at {ops : Array Oper} {rs : List Rec} (h : okPairs ops (preds ops) rs = true) {i j : Nat} (hij : i < j) (hj : j < ops.size) {a b : Oper} (ha : ops[i]? = some a) (hb : ops[j]? = some b) {ra rb : Rec} (h1 : rs[i]? = some ra) (h2 : rs[j]? = some rb) (hc : slotConf ops a b = true ∨ confl ra rb = true) : i ∈ (preds ops).getD j [] := by
 have := List.all_eq_true.1 (List.all_eq_true.1 h j (List.mem_range.2 hj)) i (List.mem_range.2 hij)
 rw [ha, hb, h1, h2] at this
 simp only [Bool.or_eq_true, Bool.and_eq_true, Bool.not_eq_true'] at this
 rcases this with h3 | ⟨h3, h4⟩
 ·simpa using h3
 ·rcases hc with hc | hc
  ·rw [hc] at h3; cases h3
  ·rw [hc] at h4; cases h4
theorem count_false {l : List Bool} (h : l.count false = 0) : ∀ (i : Nat), i < l.length → l[i]? = some true := by
 intro i hi
 have := List.count_eq_zero.1 h
 rw [List.getElem?_eq_getElem hi]
 cases hb : l[i] with
 | true => rfl
 | false => exact absurd (hb ▸ List.getElem_mem hi) this
theorem W_draw {id : Nat} {ops : Array Oper} {Q : Ex → St → Prop} {s : St} (h : WD P tab ops s.nx (Q .normal) (s.nx + ops.size) 0 ops.toList [] s.fr s.hp) : W P tab (.region id ops true) Q s := by
 obtain ⟨v, δ, rc, m, _, hsat, hok, hK⟩ := WD_trace (nxb := s.nx + ops.size) (fr0 := s.fr) (hp0 := s.hp) ops.toList 0 [] (fun _ => .un) (fun _ => []) (fun _ => ⟨[], [], false⟩) (fun _ => none) (by simp) (fun k o h => by simpa using h) rfl h
 simp only [okAll, Bool.and_eq_true] at hok
 obtain ⟨hearly, hpairs⟩ := hok
 have hrc : ∀ k, k < ops.size → ((List.range ops.size).map rc)[k]? = some (rc k) := fun k hk => by rw [List.getElem?_map, List.getElem?_range hk]; rfl
 let Cl (S : Nat → Bool) : Prop := ∀ (i : Nat) (o : Oper), ops[i]? = some o → S i = true → ∀ k ∈ dirs o, S k = true
 have hpre : ∀ i j, j ∈ (preds ops).getD i [] → j < i ∧ ∀ S, Cl S → S i = true → S j = true :=
  preds_before (fun k i => k < i ∧ ∀ S, Cl S → S i = true → S k = true) (fun i j k h1 h2 => ⟨by omega, fun S hS hk => h1.2 S hS (h2.2 S hS hk)⟩) fun i o ho k hk => ⟨early_at hearly ho k hk, fun S hS hi => hS i o ho hi k hk⟩
 have main : ∀ (fuel t : Nat) (listed : Array Bool), listed.size = ops.size → listed.toList.count false = fuel → Cl (fun k => listed.getD k false) →
   WL P tab ops s.nx (Q .normal) (Region.linearise.go .any ops fuel t listed []) ⟨frAt ops v s.fr (fun k => listed.getD k false) ops.size, hpAt δ s.hp (fun k => listed.getD k false) ops.size, nxAt m (s.nx + ops.size) (fun k => listed.getD k false) ops.size⟩ := by
  intro fuel
  induction fuel with
  | zero =>
   intro t listed hs hc _
   have hall : ∀ j, j < ops.size → (fun k => listed.getD k false) j = (fun _ => true) j := fun j hj => by
    have := count_false hc j (by simpa [hs] using hj)
    simp only [Array.getElem?_toList] at this
    simp [Array.getD_eq_getD_getElem?, this]
   simp only [Region.linearise.go, List.reverse_nil, WL]
   rw [frAt_all ops.size hall, hpAt_all ops.size hall, nxAt_all ops.size hall]
   exact hK
  | succ fuel ih =>
   intro t listed hs hc hcl
   simp only [Region.linearise.go]
   split
   ·rename_i i hi
    rw [linearise_go_acc, List.reverse_singleton, List.singleton_append]
    have hmem := List.mem_of_getElem? hi
    simp only [List.mem_filter, List.mem_range, Bool.and_eq_true, Bool.not_eq_true'] at hmem
    obtain ⟨hlt, hni, hdeps⟩ := hmem
    have hli : listed[i]? = some false := by
     rw [Array.getD_eq_getD_getElem?] at hni
     rw [Array.getElem?_eq_getElem (by omega)] at hni ⊢
     simpa using hni
    have hSi : listed.getD i false = false := by rw [Array.getD_eq_getD_getElem?, hli]; rfl
    have ho : ops[i]? = some ops[i] := Array.getElem?_eq_getElem hlt
    generalize ops[i] = o at ho
    rw [ho] at hdeps
    simp only [Option.map_some, Option.getD_some, Array.all_eq_true_iff_forall_mem] at hdeps
    have hdirs : ∀ k ∈ dirs o, listed.getD k false = true := fun k hk => by
     obtain ⟨e, he, hk2⟩ := List.mem_filterMap.1 hk
     split at hk2
     ·rename_i hb
      cases hk2
      have := hdeps e (by simpa using he)
      simpa [hb] using this
     ·cases hk2
    have hS' : ∀ j, (listed.setIfInBounds i true).getD j false = (listed.getD j false || j == i) := fun j => by
     simp only [Array.getD_eq_getD_getElem?]
     by_cases e : i = j
     ·subst e
      rw [Array.getElem?_setIfInBounds_self_of_lt (by omega)]
      simp
     ·rw [Array.getElem?_setIfInBounds_ne e]
      have : (j == i) = false := by simpa using fun h : j = i => e h.symm
      simp [this]
    have hcl' : Cl (fun k => (listed.setIfInBounds i true).getD k false) := by
     intro j oj hoj hj k hk
     simp only [hS', Bool.or_eq_true, beq_iff_eq] at hj ⊢
     rcases hj with hj | rfl
     ·exact .inl (hcl j oj hoj hj k hk)
     ·rw [ho] at hoj
      cases hoj
      exact .inl (hdirs k hk)
    have hfore : ∀ j, j ∈ (preds ops).getD i [] → listed.getD j false = true := fun j hj => by
     obtain ⟨h1, h2⟩ := hpre i j hj
     have := h2 _ hcl' (by simp [hS'])
     simp only [hS', Bool.or_eq_true, beq_iff_eq] at this
     rcases this with h3 | h3
     ·exact h3
     ·omega
    have hafter : ∀ j, i ∈ (preds ops).getD j [] → listed.getD j false = false := fun j hj => by
     obtain ⟨h1, h2⟩ := hpre j i hj
     cases hb : listed.getD j false with
     | false => rfl
     | true =>
      have := h2 _ hcl hb
      simp only [hSi] at this
      cases this
    have agree : ∀ j, j < ops.size → ∀ oj, ops[j]? = some oj → (slotConf ops oj o = true ∧ j < i ∨ slotConf ops o oj = true ∧ i < j ∨ confl (rc j) (rc i) = true ∧ j < i ∨ confl (rc i) (rc j) = true ∧ i < j ∨ j = i) → listed.getD j false = decide (j < i) := by
     intro j hj oj hoj hcase
     rcases hcase with ⟨h1, h2⟩ | ⟨h1, h2⟩ | ⟨h1, h2⟩ | ⟨h1, h2⟩ | rfl
     ·rw [hfore j (pairs_at hpairs h2 hlt hoj ho (hrc j hj) (hrc i hlt) (.inl h1))]; simp [h2]
     ·rw [hafter j (pairs_at hpairs h2 hj ho hoj (hrc i hlt) (hrc j hj) (.inl h1))]; simp; omega
     ·rw [hfore j (pairs_at hpairs h2 hlt hoj ho (hrc j hj) (hrc i hlt) (.inr h1))]; simp [h2]
     ·rw [hafter j (pairs_at hpairs h2 hj ho hoj (hrc i hlt) (hrc j hj) (.inr h1))]; simp; omega
     ·rw [hSi]; simp
    have hops : ∀ j, j < ops.size → ∃ oj, ops[j]? = some oj := fun j hj => ⟨_, Array.getElem?_eq_getElem hj⟩
    have hks : ∀ j, j < ops.size → (rc j).ks = (δ j).map (·.1) := fun j hj => by
     obtain ⟨oj, hoj⟩ := hops j hj
     exact (hsat j oj (Nat.zero_le _) hoj).ks.1
    have hgs : ∀ j, j < ops.size → (rc j).g = (m j).isSome := fun j hj => by
     obtain ⟨oj, hoj⟩ := hops j hj
     exact (hsat j oj (Nat.zero_le _) hoj).ks.2
    have hfr : ∀ t ∈ readsOf ops o, frAt ops v s.fr (fun _ => true) i t = frAt ops v s.fr (fun k => listed.getD k false) ops.size t := by
     intro t ht
     have e1 : frAt ops v s.fr (fun k => listed.getD k false) ops.size t = frAt ops v s.fr (fun k => decide (k < i)) ops.size t := by
      refine frAt_congr ops.size fun j hj hd => ?_
      obtain ⟨oj, hoj⟩ := hops j hj
      rw [hoj] at hd
      simp only [Option.bind_some] at hd
      refine agree j hj oj hoj ?_
      rcases Nat.lt_trichotomy j i with h1 | h1 | h1
      ·exact .inl ⟨by simp [slotConf, hd]; exact .inl (.inl ht), h1⟩
      ·exact .inr (.inr (.inr (.inr h1)))
      ·exact .inr (.inl ⟨by simp [slotConf, hd]; exact .inr ht, h1⟩)
     have e2 : frAt ops v s.fr (fun k => decide (k < i)) ops.size = frAt ops v s.fr (fun k => decide (k < i)) i := by
      have := frAt_stop (ops := ops) (v := v) (fr0 := s.fr) i (ops.size - i)
      rwa [show i + (ops.size - i) = ops.size by omega] at this
     rw [e1, e2]
     exact congrFun (frAt_all i fun j hj => by simp [hj]) t
    have hsi := hsat i o (Nat.zero_le _) ho
    have hhp : ∀ x ∈ (rc i).ids, hpAt δ s.hp (fun _ => true) i x = hpAt δ s.hp (fun k => listed.getD k false) ops.size x := by
     intro x hx
     have e1 : hpAt δ s.hp (fun k => listed.getD k false) ops.size x = hpAt δ s.hp (fun k => decide (k < i)) ops.size x := by
      refine hpAt_congr ops.size fun j hj hd => ?_
      obtain ⟨oj, hoj⟩ := hops j hj
      rw [← hks j hj] at hd
      refine agree j hj oj hoj ?_
      rcases Nat.lt_trichotomy j i with h1 | h1 | h1
      ·exact .inr (.inr (.inl ⟨confl_of0 (by simp only [confl0, Bool.or_eq_true]; exact .inl (.inl (meet_true hd (List.mem_append.2 (.inl hx))))), h1⟩))
      ·exact .inr (.inr (.inr (.inr h1)))
      ·exact .inr (.inr (.inr (.inl ⟨confl_of0 (by simp only [confl0, Bool.or_eq_true]; exact .inl (.inr (meet_true hd hx))), h1⟩)))
     have e2 : hpAt δ s.hp (fun k => decide (k < i)) ops.size = hpAt δ s.hp (fun k => decide (k < i)) i := by
      have := hpAt_stop (δ := δ) (hp0 := s.hp) i (ops.size - i)
      rwa [show i + (ops.size - i) = ops.size by omega] at this
     rw [e1, e2]
     exact congrFun (hpAt_all i fun j hj => by simp [hj]) x
    have hhw : (m i).isSome = true → sent ∈ (rc i).ids → hpAt δ s.hp (fun _ => true) i = hpAt δ s.hp (fun k => listed.getD k false) ops.size := by
     intro hmi hw
     have hwi : wild (rc i) = true := by
      rw [← hgs i hlt] at hmi
      simpa [wild, hmi] using hw
     have e1 : ∀ j, j < ops.size → ∀ x, x ∈ (δ j).map (·.1) → listed.getD j false = decide (j < i) := fun j hj x hd => by
      obtain ⟨oj, hoj⟩ := hops j hj
      refine agree j hj oj hoj ?_
      rw [← hks j hj] at hd
      have hne : (rc j).ks.isEmpty = false := by
       cases e : (rc j).ks with
       | nil => rw [e] at hd; cases hd
       | cons _ _ => rfl
      rcases Nat.lt_trichotomy j i with h1 | h1 | h1
      ·exact .inr (.inr (.inl ⟨by simp [confl, hwi, hne], h1⟩))
      ·exact .inr (.inr (.inr (.inr h1)))
      ·exact .inr (.inr (.inr (.inl ⟨by simp [confl, hwi, hne], h1⟩)))
     have e2 : hpAt δ s.hp (fun k => listed.getD k false) ops.size = hpAt δ s.hp (fun k => decide (k < i)) ops.size := by
      funext x
      exact hpAt_congr ops.size fun j hj hd => e1 j hj x hd
     have e3 : hpAt δ s.hp (fun k => decide (k < i)) ops.size = hpAt δ s.hp (fun k => decide (k < i)) i := by
      have := hpAt_stop (δ := δ) (hp0 := s.hp) i (ops.size - i)
      rwa [show i + (ops.size - i) = ops.size by omega] at this
     rw [e2, e3]
     exact hpAt_all i fun j hj => by simp [hj]
    have hnx : (m i).isSome = true → nxAt m (s.nx + ops.size) (fun _ => true) i = nxAt m (s.nx + ops.size) (fun k => listed.getD k false) ops.size := by
     intro hmi
     have e1 : nxAt m (s.nx + ops.size) (fun k => listed.getD k false) ops.size = nxAt m (s.nx + ops.size) (fun k => decide (k < i)) ops.size := by
      refine nxAt_congr ops.size fun j hj hd => ?_
      obtain ⟨oj, hoj⟩ := hops j hj
      refine agree j hj oj hoj ?_
      rw [← hgs j hj] at hd
      rw [← hgs i hlt] at hmi
      rcases Nat.lt_trichotomy j i with h1 | h1 | h1
      ·exact .inr (.inr (.inl ⟨confl_of0 (by simp only [confl0, Bool.or_eq_true, Bool.and_eq_true]; exact .inr ⟨hd, hmi⟩), h1⟩))
      ·exact .inr (.inr (.inr (.inr h1)))
      ·exact .inr (.inr (.inr (.inl ⟨confl_of0 (by simp only [confl0, Bool.or_eq_true, Bool.and_eq_true]; exact .inr ⟨hmi, hd⟩), h1⟩)))
     have e2 : nxAt m (s.nx + ops.size) (fun k => decide (k < i)) ops.size = nxAt m (s.nx + ops.size) (fun k => decide (k < i)) i := by
      have := nxAt_stop (m := m) (nx := s.nx + ops.size) i (ops.size - i)
      rwa [show i + (ops.size - i) = ops.size by omega] at this
     rw [e1, e2]
     exact nxAt_all i fun j hj => by simp [hj]
    have efr : frAt ops v s.fr (fun k => (listed.setIfInBounds i true).getD k false) ops.size = putS o.dst (v i) (frAt ops v s.fr (fun k => listed.getD k false) ops.size) := by
     have := frAt_add (ops := ops) (v := v) (fr0 := s.fr) (S := fun k => listed.getD k false) (S' := fun k => (listed.setIfInBounds i true).getD k false) (i := i) hS' ops.size hlt fun j h1 h2 h3 d hd hd2 => by
      obtain ⟨oj, hoj⟩ := hops j h2
      rw [ho] at hd
      rw [hoj] at hd2
      simp only [Option.bind_some] at hd hd2
      have := agree j h2 oj hoj (.inr (.inl ⟨by simp [slotConf, hd, hd2], h1⟩))
      rw [this] at h3
      simp at h3
      omega
     rw [this, ho]
     rfl
    have ehp : hpAt δ s.hp (fun k => (listed.setIfInBounds i true).getD k false) ops.size = upds (δ i) (hpAt δ s.hp (fun k => listed.getD k false) ops.size) := by
     refine hpAt_add hS' ops.size hlt fun j h1 h2 h3 x hx hx2 => ?_
     obtain ⟨oj, hoj⟩ := hops j h2
     rw [← hks i hlt] at hx
     rw [← hks j h2] at hx2
     have := agree j h2 oj hoj (.inr (.inr (.inr (.inl ⟨confl_of0 (by simp only [confl0, Bool.or_eq_true]; exact .inl (.inl (meet_true hx (List.mem_append.2 (.inr hx2))))), h1⟩))))
     rw [this] at h3
     simp at h3
     omega
    have enx : nxAt m (s.nx + ops.size) (fun k => (listed.setIfInBounds i true).getD k false) ops.size = (m i).getD (nxAt m (s.nx + ops.size) (fun k => listed.getD k false) ops.size) := by
     refine nxAt_add hS' ops.size hlt fun j h1 h2 h3 hmi => ?_
     obtain ⟨oj, hoj⟩ := hops j h2
     cases hmj : (m j).isSome with
     | false => rfl
     | true =>
      rw [← hgs i hlt] at hmi
      rw [← hgs j h2] at hmj
      have := agree j h2 oj hoj (.inr (.inr (.inr (.inl ⟨confl_of0 (by simp only [confl0, Bool.or_eq_true, Bool.and_eq_true]; exact .inr ⟨hmi, hmj⟩), h1⟩))))
      rw [this] at h3
      simp at h3
      omega
    have hrest := ih (t / (List.filter (fun i => !listed.getD i true && ((ops[i]?).map (·.after.all fun e => !Region.binds .any e || listed.getD e.on false)).getD false) (List.range ops.size)).length) (listed.setIfInBounds i true) (by simpa using hs) (by
     rw [Array.toList_setIfInBounds]
     have hlt2 : i < listed.toList.length := by simp; omega
     have hget : listed.toList[i] = false := by
      rw [Array.getElem?_eq_getElem (by omega)] at hli
      simpa using hli
     rw [List.count_set hlt2, hget, hc]
     simp) hcl'
    rw [efr, ehp, enx] at hrest
    unfold WL
    rw [ho]
    refine gd_guardW ?_
    simp only
    rcases hsi with ⟨h1, h2, h3, h4⟩ | ⟨h1, h2, h3, h4, h5⟩
    ·left
     refine ⟨by rw [← gd_congr hfr]; exact h1, ?_⟩
     refine ex_execW (v := v i) (δ := δ i) (ExD_congr h2 (ev_congr hfr) (fun x hx => hhp x hx) hhw hnx) ?_
     exact hrest
    ·right
     refine ⟨by rw [← gd_congr hfr]; exact h1, ?_⟩
     rw [h2, h3, h4] at hrest
     exact hrest
   ·rename_i hnone
    exfalso
    have hex : ∃ i, i < ops.size ∧ listed.getD i false = false := by
     have hpos : 0 < listed.toList.count false := by omega
     have := List.count_pos_iff.1 hpos
     obtain ⟨i, hi⟩ := List.mem_iff_getElem?.1 this
     have hlt := (List.getElem?_eq_some_iff.1 hi).1
     refine ⟨i, by simp [hs] at hlt; exact hlt, ?_⟩
     rw [Array.getElem?_toList] at hi
     rw [Array.getD_eq_getD_getElem?, hi]; rfl
    have hmin : ∀ n, ∀ i, i ≤ n → i < ops.size → listed.getD i false = false → ∃ k, k < ops.size ∧ listed.getD k false = false ∧ ∀ j, j < k → listed.getD j false = true := by
     intro n
     induction n with
     | zero =>
      intro i hi h1 h2
      exact ⟨i, h1, h2, fun j hj => by omega⟩
     | succ n ihn =>
      intro i hi h1 h2
      by_cases hall : ∀ j, j < i → listed.getD j false = true
      ·exact ⟨i, h1, h2, hall⟩
      ·have : ∃ j, j < i ∧ listed.getD j false = false := by
        refine Classical.byContradiction fun hno => hall fun j hj => ?_
        cases hb : listed.getD j false with
        | true => rfl
        | false => exact absurd ⟨j, hj, hb⟩ hno
       obtain ⟨j, h3, h4⟩ := this
       exact ihn j (by omega) (by omega) h4
    obtain ⟨i, h1, h2⟩ := hex
    obtain ⟨k, h3, h4, h5⟩ := hmin i i (Nat.le_refl _) h1 h2
    have hk : ops[k]? = some ops[k] := Array.getElem?_eq_getElem h3
    generalize ops[k] = ok at hk
    have hready : k ∈ List.filter (fun i => !listed.getD i true && ((ops[i]?).map (·.after.all fun e => !Region.binds .any e || listed.getD e.on false)).getD false) (List.range ops.size) := by
     simp only [List.mem_filter, List.mem_range, Bool.and_eq_true, Bool.not_eq_true']
     refine ⟨h3, ?_, ?_⟩
     ·rw [Array.getD_eq_getD_getElem?] at h4 ⊢
      rw [Array.getElem?_eq_getElem (by omega)] at h4 ⊢
      simpa using h4
     ·rw [hk]
      simp only [Option.map_some, Option.getD_some, Array.all_eq_true_iff_forall_mem]
      intro e he
      cases hb : Region.binds .any e with
      | false => rfl
      | true =>
       have := early_at hearly hk e.on (dirs_mem (by simpa using he) hb)
       simp [h5 _ this]
    generalize List.filter (fun i => !listed.getD i true && ((ops[i]?).map (·.after.all fun e => !Region.binds .any e || listed.getD e.on false)).getD false) (List.range ops.size) = rs at hnone hready
    have hpos : 0 < rs.length := List.length_pos_of_mem hready
    rw [List.getElem?_eq_getElem (Nat.mod_lt _ hpos)] at hnone
    cases hnone
 intro t
 have := main ops.size t (Array.replicate ops.size false) (by simp) (by simp []) (fun i o _ hi => by
  simp only [Array.getD_eq_getD_getElem?, Array.getElem?_replicate] at hi
  split at hi <;> cases hi)
 have hno : ∀ j, j < ops.size → (Array.replicate ops.size false).getD j false = (fun _ => false) j := fun j hj => by simp [Array.getD_eq_getD_getElem?, hj]
 have z1 : ∀ n, frAt ops v s.fr (fun _ => false) n = s.fr := fun n => by
  induction n with
  | zero => rfl
  | succ n ih => simp [frAt, ih]
 have z2 : ∀ n, hpAt δ s.hp (fun _ => false) n = s.hp := fun n => by
  induction n with
  | zero => rfl
  | succ n ih => simp [hpAt, ih]
 have z3 : ∀ n, nxAt m (s.nx + ops.size) (fun _ => false) n = s.nx + ops.size := fun n => by
  induction n with
  | zero => rfl
  | succ n ih => simp [nxAt, ih]
 rw [frAt_all ops.size hno, hpAt_all ops.size hno, nxAt_all ops.size hno, z1, z2, z3] at this
 exact this
end
end Go.Proofs.Ytjkdbakgnnhdnaa.Ab
