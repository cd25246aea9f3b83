/-
 Open orders: what commutes.
-/
import Derived.Test.YtjkdbakgnnhdnaaAbC
namespace Go.Proofs.Ytjkdbakgnnhdnaa.Ab
open Go.RowKit
structure Rec where
 ids : List Nat
 ks : List Nat
 g : Bool
def meet (xs ys : List Nat) : Bool := xs.any fun x => ys.contains x
def confl0 (a b : Rec) : Bool := meet a.ks (b.ids ++ b.ks) || meet b.ks a.ids || (a.g && b.g)
def sent : Nat := 340282366920938463463374607431768211456
def wild (a : Rec) : Bool := a.g && a.ids.contains sent
def confl (a b : Rec) : Bool := confl0 a b || ((wild a && !b.ks.isEmpty) || (wild b && !a.ks.isEmpty))
theorem confl_of0 {a b : Rec} (h : confl0 a b = true) : confl a b = true := by simp [confl, h]
def Agree (ids : List Nat) (hp1 hp : Hp) : Prop := (∀ i ∈ ids, hp1 i = hp i) ∧ (sent ∈ ids → hp1 = hp)
def dirs (o : Oper) : List Nat := o.after.toList.filterMap fun e => if Region.binds .any e then some e.on else none
def predsFrom : List Oper → List (List Nat) → List (List Nat)
 | [], acc => acc
 | o :: r, acc => predsFrom r (acc ++ [(dirs o ++ (dirs o).flatMap fun k => acc.getD k []).eraseDups])
def preds (ops : Array Oper) : List (List Nat) := predsFrom ops.toList []
def readsOf (ops : Array Oper) (o : Oper) : List Nat :=
 (o.op.operands.toList.filterMap fun x => match x with | .tmp t => some t | _ => none) ++ (match o.guard with | some (j, _) => (((ops[j]?).bind (·.dst)).toList) | none => [])
def slotConf (ops : Array Oper) (a b : Oper) : Bool :=
 (match a.dst with | some d => (readsOf ops b).contains d || b.dst == some d | none => false) || (match b.dst with | some d => (readsOf ops a).contains d | none => false)
def okPairs (ops : Array Oper) (ps : List (List Nat)) (rs : List Rec) : Bool :=
 (List.range ops.size).all fun j => (List.range j).all fun i =>
  (ps.getD j []).contains i || (match ops[i]?, ops[j]? with | some a, some b => !slotConf ops a b | _, _ => true) && (match rs[i]?, rs[j]? with | some a, some b => !confl a b | _, _ => true)
def early (ops : Array Oper) : Bool := ops.toList.zipIdx.all fun p => (dirs p.1).all fun k => decide (k < p.2)
def okAll (ops : Array Oper) (rs : List Rec) : Bool := early ops && okPairs ops (preds ops) rs
def DetOK (P : Program) (g : FuncId) (vs : List AV) (hp : Hp) (nx : Nat) (ids : List Nat) (v : AV) (δ : List (Nat × AO)) (nx' : Nat) : Prop :=
 ∀ hp1 : Hp, Agree ids hp1 hp → InlOK P g vs hp1 nx fun v2 hp2 nx2 => v2 = v ∧ hp2 = upds δ hp1 ∧ nx2 = nx'
def execD (P : Program) (tab : Nat → TI) (op : Op) (id nx : Nat) (fr : Fr) (hp : Hp) (K : AV → List (Nat × AO) → List Nat → Option Nat → Prop) : Prop :=
 match op with
 | .call { callee := .value f, args, .. } => match ev fr f with
  | .fn g caps => (∃ ds b is d fr', toDl hp (args.toList.map (ev fr) ++ caps) = some (ds, b, is) ∧ PureOK P g ds d fr' ∧ (is = [] ∨ fr' = true) ∧ K (lift (!fr' && b) d) [] (idsOp (ev fr) op) none) ∨
   ∃ ids v δ nx', DetOK P g (args.toList.map (ev fr) ++ caps) hp nx ids v δ nx' ∧ K v δ ids (some nx')
  | _ => False
 | op => match evalOp tab (ev fr) hp id op with
  | some (v, δ) => K v δ (idsOp (ev fr) op) none
  | none => False
def WD (P : Program) (tab : Nat → TI) (ops : Array Oper) (nx0 : Nat) (K : St → Prop) : Nat → Nat → List Oper → List Rec → Fr → Hp → Prop
 | nx, _, [], acc, fr, hp => okAll ops acc.reverse = true ∧ K ⟨fr, hp, nx⟩
 | nx, i, o :: r, acc, fr, hp => guardW ops o ⟨fr, hp, nx⟩
   (execD P tab o.op (nx0 + i) nx fr hp fun v δ ids n => WD P tab ops nx0 K (n.getD nx) (i + 1) r (⟨ids, δ.map (·.1), n.isSome⟩ :: acc) (putS o.dst v fr) (upds δ hp))
   (WD P tab ops nx0 K nx (i + 1) r (⟨[], [], false⟩ :: acc) (putS o.dst (.tu []) fr) hp)
section
variable {P : Program} {tab : Nat → TI}
theorem mem_eraseDups' {xs : List Nat} {x : Nat} (h : x ∈ xs.eraseDups) : x ∈ xs := by
 exact (List.mem_eraseDups).1 h
theorem preds_before {ops : Array Oper} (Bf : Nat → Nat → Prop) (htr : ∀ i j k, Bf i j → Bf j k → Bf i k) (hdir : ∀ (i : Nat) (o : Oper), ops[i]? = some o → ∀ k ∈ dirs o, Bf k i) :
  ∀ i j, j ∈ (preds ops).getD i [] → Bf j i := by
 have key : ∀ (l : List Oper) (acc : List (List Nat)), (∀ (k : Nat) (o : Oper), l[k]? = some o → ops[acc.length + k]? = some o) → (∀ i j, j ∈ acc.getD i [] → Bf j i) → ∀ i j, j ∈ (predsFrom l acc).getD i [] → Bf j i := by
  intro l
  induction l with
  | nil => exact fun acc _ h => h
  | cons o r ih =>
   intro acc hl hacc
   refine ih _ (fun k o' hk => ?_) fun i j hj => ?_
   ·have := hl (k + 1) o' (by simpa using hk)
    rw [List.length_append, List.length_singleton, Nat.add_assoc, Nat.add_comm 1 k]
    exact this
   ·by_cases hi : i < acc.length
    ·rw [List.getD, List.getElem?_append_left hi] at hj
     exact hacc i j hj
    ·rw [List.getD, List.getElem?_append_right (by omega)] at hj
     by_cases hi2 : i = acc.length
     ·subst hi2
      simp only [Nat.sub_self, List.getElem?_cons_zero, Option.getD_some] at hj
      have ho := hl 0 o rfl
      rw [Nat.add_zero] at ho
      have hj2 := mem_eraseDups' hj
      rcases List.mem_append.1 hj2 with h1 | h1
      ·exact hdir _ o ho j h1
      ·obtain ⟨k, h2, h3⟩ := List.mem_flatMap.1 h1
       exact htr j k _ (hacc k j h3) (hdir _ o ho k h2)
     ·rw [List.getElem?_eq_none (by simp; omega)] at hj
      simp at hj
 exact key ops.toList [] (fun k o h => by simpa using h) fun i j h => by simp at h
def frAt (ops : Array Oper) (v : Nat → AV) (fr0 : Fr) (S : Nat → Bool) : Nat → Fr
 | 0 => fr0
 | k + 1 => if S k then putS ((ops[k]?).bind (·.dst)) (v k) (frAt ops v fr0 S k) else frAt ops v fr0 S k
def hpAt (δ : Nat → List (Nat × AO)) (hp0 : Hp) (S : Nat → Bool) : Nat → Hp
 | 0 => hp0
 | k + 1 => if S k then upds (δ k) (hpAt δ hp0 S k) else hpAt δ hp0 S k
def nxAt (m : Nat → Option Nat) (nx : Nat) (S : Nat → Bool) : Nat → Nat
 | 0 => nx
 | k + 1 => if S k then (m k).getD (nxAt m nx S k) else nxAt m nx S k
def ovr : List (Nat × AO) → Nat → Option AO
 | [], _ => none
 | (k, o) :: r, x => match ovr r x with
  | some o' => some o'
  | none => if x = k then some o else none
theorem upds_get : ∀ (δ : List (Nat × AO)) (h : Hp) (x : Nat), upds δ h x = match ovr δ x with | some o => some o | none => h x
 | [], h, x => rfl
 | (k, o) :: r, h, x => by
  simp only [upds, upds_get r, ovr]
  cases ovr r x with
  | some o' => rfl
  | none =>
   by_cases e : x = k
   ·subst e; simp [upd]
   ·simp [upd, e]
theorem ovr_none {δ : List (Nat × AO)} {x : Nat} (h : x ∉ δ.map (·.1)) : ovr δ x = none := by
 induction δ with
 | nil => rfl
 | cons p r ih =>
  obtain ⟨k, o⟩ := p
  simp only [List.map_cons, List.mem_cons, not_or] at h
  simp [ovr, ih h.2, h.1]
theorem putS_get (d : Option Nat) (v : AV) (fr : Fr) (t : Nat) : putS d v fr t = if d = some t then v else fr t := by
 cases d with
 | none => simp [putS]
 | some k =>
  by_cases e : t = k
  ·subst e; simp [putS, upd]
  ·have : ¬ k = t := fun h => e h.symm
   simp [putS, upd, e, this]
theorem frAt_congr {ops : Array Oper} {v : Nat → AV} {fr0 : Fr} {S S' : Nat → Bool} {t : Nat} : ∀ n, (∀ j, j < n → (ops[j]?).bind (·.dst) = some t → S j = S' j) → frAt ops v fr0 S n t = frAt ops v fr0 S' n t
 | 0, _ => rfl
 | n + 1, h => by
  have ih := frAt_congr (v := v) (fr0 := fr0) n fun j hj => h j (by omega)
  have one : ∀ S : Nat → Bool, frAt ops v fr0 S (n + 1) t = if S n = true ∧ (ops[n]?).bind (·.dst) = some t then v n else frAt ops v fr0 S n t := by
   intro S
   simp only [frAt]
   by_cases hS : S n = true
   ·simp [hS, putS_get]
   ·simp [hS]
  rw [one S, one S', ih]
  by_cases hd : (ops[n]?).bind (·.dst) = some t
  ·rw [h n (by omega) hd]
  ·simp [hd]
theorem hpAt_congr {δ : Nat → List (Nat × AO)} {hp0 : Hp} {S S' : Nat → Bool} {x : Nat} : ∀ n, (∀ j, j < n → x ∈ (δ j).map (·.1) → S j = S' j) → hpAt δ hp0 S n x = hpAt δ hp0 S' n x
 | 0, _ => rfl
 | n + 1, h => by
  have ih := hpAt_congr (δ := δ) (hp0 := hp0) n fun j hj => h j (by omega)
  by_cases hx : x ∈ (δ n).map (·.1)
  ·have e := h n (by omega) hx
   simp only [hpAt, e]
   split
   ·simp only [upds_get, ih]
   ·exact ih
  ·have one : ∀ S : Nat → Bool, hpAt δ hp0 S (n + 1) x = hpAt δ hp0 S n x := by
    intro S
    simp only [hpAt]
    split
    ·simp [upds_get, ovr_none hx]
    ·rfl
   rw [one S, one S', ih]
theorem nxAt_congr {m : Nat → Option Nat} {nx : Nat} {S S' : Nat → Bool} : ∀ n, (∀ j, j < n → (m j).isSome = true → S j = S' j) → nxAt m nx S n = nxAt m nx S' n
 | 0, _ => rfl
 | n + 1, h => by
  have ih := nxAt_congr (m := m) (nx := nx) n fun j hj => h j (by omega)
  simp only [nxAt, ih]
  cases hm : m n with
  | none => simp
  | some k => rw [h n (by omega) (by rw [hm]; rfl)]
theorem nxAt_stop {m : Nat → Option Nat} {nx : Nat} (i : Nat) : ∀ n, nxAt m nx (fun k => decide (k < i)) (i + n) = nxAt m nx (fun k => decide (k < i)) i
 | 0 => rfl
 | n + 1 => by rw [← Nat.add_assoc]; simp only [nxAt]; rw [if_neg (by simp), nxAt_stop i n]
theorem nxAt_all {m : Nat → Option Nat} {nx : Nat} {S S' : Nat → Bool} : ∀ n, (∀ j, j < n → S j = S' j) → nxAt m nx S n = nxAt m nx S' n
 | n, h => nxAt_congr n fun j hj _ => h j hj
theorem nxAt_add {m : Nat → Option Nat} {nx : Nat} {S S' : Nat → Bool} {i : Nat} (hS' : ∀ j, S' j = (S j || j == i)) (n : Nat) (hi : i < n) (hlast : ∀ j, i < j → j < n → S j = true → (m i).isSome = true → (m j).isSome = false) :
  nxAt m nx S' n = (m i).getD (nxAt m nx S n) := by
 cases hm : m i with
 | none =>
  refine nxAt_congr n fun j _ hd => ?_
  rw [hS']
  have : j ≠ i := fun e => by subst e; rw [hm] at hd; cases hd
  simp [this]
 | some k =>
  have key : ∀ n, i < n → (∀ j, i < j → j < n → S j = true → (m j).isSome = false) → nxAt m nx S' n = k := by
   intro n
   induction n with
   | zero => intro h; omega
   | succ n ih =>
    intro hi hl
    simp only [nxAt]
    by_cases e : n = i
    ·subst e
     rw [if_pos (by simp [hS']), hm]; rfl
    ·have hrest := ih (by omega) fun j h1 h2 => hl j h1 (by omega)
     split
     ·rename_i hs
      have hs2 : S n = true := by
       rw [hS'] at hs
       simpa [e] using hs
      have := hl n (by omega) (by omega) hs2
      cases hmn : m n with
      | none => exact hrest
      | some q => rw [hmn] at this; cases this
     ·exact hrest
  exact key n hi fun j h1 h2 h3 => hlast j h1 h2 h3 (by rw [hm]; rfl)
theorem nxAt_v {m m' : Nat → Option Nat} {nx : Nat} {S : Nat → Bool} : ∀ n, (∀ k, k < n → m k = m' k) → nxAt m nx S n = nxAt m' nx S n
 | 0, _ => rfl
 | n + 1, h => by simp only [nxAt, nxAt_v n fun k hk => h k (by omega), h n (by omega)]
theorem frAt_stop {ops : Array Oper} {v : Nat → AV} {fr0 : Fr} (i : Nat) : ∀ n, frAt ops v fr0 (fun k => decide (k < i)) (i + n) = frAt ops v fr0 (fun k => decide (k < i)) i
 | 0 => rfl
 | n + 1 => by rw [← Nat.add_assoc]; simp only [frAt]; rw [if_neg (by simp), frAt_stop i n]
theorem hpAt_stop {δ : Nat → List (Nat × AO)} {hp0 : Hp} (i : Nat) : ∀ n, hpAt δ hp0 (fun k => decide (k < i)) (i + n) = hpAt δ hp0 (fun k => decide (k < i)) i
 | 0 => rfl
 | n + 1 => by rw [← Nat.add_assoc]; simp only [hpAt]; rw [if_neg (by simp), hpAt_stop i n]
theorem frAt_all {ops : Array Oper} {v : Nat → AV} {fr0 : Fr} {S S' : Nat → Bool} : ∀ n, (∀ j, j < n → S j = S' j) → frAt ops v fr0 S n = frAt ops v fr0 S' n
 | n, h => funext fun _ => frAt_congr n fun j hj _ => h j hj
theorem hpAt_all {δ : Nat → List (Nat × AO)} {hp0 : Hp} {S S' : Nat → Bool} : ∀ n, (∀ j, j < n → S j = S' j) → hpAt δ hp0 S n = hpAt δ hp0 S' n
 | n, h => funext fun _ => hpAt_congr n fun j hj _ => h j hj
theorem frAt_add {ops : Array Oper} {v : Nat → AV} {fr0 : Fr} {S S' : Nat → Bool} {i : Nat} (hS' : ∀ j, S' j = (S j || j == i)) : ∀ n, i < n → (∀ j, i < j → j < n → S j = true → ∀ d, (ops[i]?).bind (·.dst) = some d → (ops[j]?).bind (·.dst) ≠ some d) →
  frAt ops v fr0 S' n = putS ((ops[i]?).bind (·.dst)) (v i) (frAt ops v fr0 S n) := by
 intro n hi hlast
 funext t
 rw [putS_get]
 by_cases ht : (ops[i]?).bind (·.dst) = some t
 ·rw [if_pos ht]
  have key : ∀ n, i < n → (∀ j, i < j → j < n → S j = true → (ops[j]?).bind (·.dst) ≠ some t) → frAt ops v fr0 S' n t = v i := by
   intro n
   induction n with
   | zero => intro h; omega
   | succ n ih =>
    intro hi hl
    simp only [frAt]
    by_cases e : n = i
    ·subst e
     rw [if_pos (by simp [hS']), putS_get, if_pos ht]
    ·have hrest := ih (by omega) fun j h1 h2 => hl j h1 (by omega)
     split
     ·rename_i hs
      have hs2 : S n = true := by
       rw [hS'] at hs
       simpa [e] using hs
      rw [putS_get, if_neg (hl n (by omega) (by omega) hs2)]
      exact hrest
     ·exact hrest
  exact key n hi fun j h1 h2 h3 => hlast j h1 h2 h3 t ht
 ·rw [if_neg ht]
  refine frAt_congr n fun j _ hd => ?_
  rw [hS']
  have : j ≠ i := fun e => ht (e ▸ hd)
  simp [this]
theorem hpAt_add {δ : Nat → List (Nat × AO)} {hp0 : Hp} {S S' : Nat → Bool} {i : Nat} (hS' : ∀ j, S' j = (S j || j == i)) (n : Nat) (hi : i < n) (hlast : ∀ j, i < j → j < n → S j = true → ∀ x ∈ (δ i).map (·.1), x ∉ (δ j).map (·.1)) :
  hpAt δ hp0 S' n = upds (δ i) (hpAt δ hp0 S n) := by
 funext x
 by_cases hx : x ∈ (δ i).map (·.1)
 ·-- the last word on x is i's
  have key : ∀ n, i < n → (∀ j, i < j → j < n → S j = true → x ∉ (δ j).map (·.1)) → hpAt δ hp0 S' n x = upds (δ i) (hpAt δ hp0 S i) x ∧ (∀ h : Hp, upds (δ i) h x = upds (δ i) (hpAt δ hp0 S i) x) := by
   intro n
   have hov : ∃ o, ovr (δ i) x = some o := by
    have : ∀ δ : List (Nat × AO), x ∈ δ.map (·.1) → ∃ o, ovr δ x = some o := by
     intro δ
     induction δ with
     | nil => intro h; simp at h
     | cons p r ih =>
      obtain ⟨k, o⟩ := p
      intro h
      simp only [ovr]
      cases hr : ovr r x with
      | some o' => exact ⟨o', rfl⟩
      | none =>
       by_cases e : x = k
       ·exact ⟨o, by simp [e]⟩
       ·simp only [List.map_cons, List.mem_cons] at h
        rcases h with h | h
        ·exact absurd h e
        ·obtain ⟨o', h'⟩ := ih h
         rw [hr] at h'; cases h'
    exact this _ hx
   obtain ⟨o, ho⟩ := hov
   have hall : ∀ h : Hp, upds (δ i) h x = some o := fun h => by rw [upds_get, ho]
   induction n with
   | zero => intro h; omega
   | succ n ih =>
    intro hi hl
    refine ⟨?_, fun h => by rw [hall, hall]⟩
    rw [hall]
    simp only [hpAt]
    by_cases e : n = i
    ·subst e
     rw [if_pos (by simp [hS']), hall]
    ·have hrest := (ih (by omega) fun j h1 h2 => hl j h1 (by omega)).1
     rw [hall] at hrest
     split
     ·rename_i hs
      have hs2 : S n = true := by
       rw [hS'] at hs
       simpa [e] using hs
      rw [upds_get, ovr_none (hl n (by omega) (by omega) hs2)]
      exact hrest
     ·exact hrest
  obtain ⟨h1, h2⟩ := key n hi fun j a b c => hlast j a b c x hx
  rw [h1]
  exact (h2 _).symm
 ·rw [upds_get, ovr_none hx]
  refine hpAt_congr n fun j _ hd => ?_
  rw [hS']
  have : j ≠ i := fun e => hx (e ▸ hd)
  simp [this]
end
end Go.Proofs.Ytjkdbakgnnhdnaa.Ab
