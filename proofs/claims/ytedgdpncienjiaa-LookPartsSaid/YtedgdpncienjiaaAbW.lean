/-
  What one has made, told as data where ways meet.
-/
import Derived.Test.YtedgdpncienjiaaAbV
namespace Go.Proofs.Ytedgdpncienjiaa.Ab
open Go.RowKit
theorem dat_mk {n N nx : Nat} {fr' fr : Fr} {hp' hp : Hp} (h1 : nx ≤ N) (h2 : ∀ t, DatV hp hp' (fr t) (fr' t)) (h3 : ∀ i o', hp' i = some o' → ∃ o, hp i = some o ∧ DatO hp hp' o o') : WeakR n ⟨fr', hp', N⟩ ⟨fr, hp, nx⟩ := .dat ⟨h2, h3, h1⟩
section
variable {hp hp' : Hp}
theorem df_no (fr : Fr) : ∀ t, DatV hp hp' (fr t) (noFr t) := fun _ => .un _
theorem df_upd {fr fr' : Fr} {k : Nat} {x : AV} (h : DatV hp hp' (fr k) x) (hw : ∀ t, DatV hp hp' (fr t) (fr' t)) : ∀ t, DatV hp hp' (fr t) (upd k x fr' t) := fun t => by
  unfold upd
  split
  · rename_i e; subst e; exact h
  · exact hw t
theorem dc_same {x y : AV} (h : x = y) : DatC hp hp' x y := by subst h; exact .same _
theorem dc_so {id ver n sz : Nat} {es : List (List D)} {br fz b' : Bool} (h : hp id = some (.rw es sz ver br fz)) (hn : n = es.length) (h' : hp' id = none) (hb : br = true → b' = true) : DatC hp hp' (.so id ver 0 n) (.d (.sl es) b') :=
  .dat _ _ br b' [id] (by simp only [toD1, h, if_true, List.drop_zero]; rw [hn, List.take_length]) hb fun i hi o ho => by
    simp only [List.mem_singleton] at hi
    subst hi
    rw [h'] at ho
    cases ho
theorem dc_part {id ver off n sz : Nat} {es es' : List (List D)} {br fz b' : Bool} (h : hp id = some (.rw es sz ver br fz)) (hn : (es.drop off).take n = es') (h' : hp' id = none) (hb : br = true → b' = true) : DatC hp hp' (.so id ver off n) (.d (.sl es') b') :=
  .dat _ _ br b' [id] (by simp only [toD1, h, if_true, hn]) hb fun i hi o ho => by
    simp only [List.mem_singleton] at hi
    subst hi
    rw [h'] at ho
    cases ho
theorem dc_acc {id ver sz : Nat} {es : List (List D)} {br b' : Bool} (h : hp id = accO sz ver br es) (h' : hp' id = none) (hb : br = true → b' = true) : DatC hp hp' (accV id ver es) (.d (.sl es) b') :=
  .dat _ _ (accB br es) b' (accK id es) (by rw [toD1_acc, h, accT_acc]) (fun e => hb (by cases es with | nil => cases e | cons x r => exact e)) fun i hi o ho => by
    have : i = id := by cases es with | nil => cases hi | cons x r => exact List.mem_singleton.1 hi
    subst this
    rw [h'] at ho
    cases ho
theorem dc_nil {b' : Bool} {α : Type} {f : α → List D} : DatC hp hp' (.v (.slice none 0 0)) (.d (.sl (List.map f [])) b') := .dat _ _ false b' [] rfl (fun h => by cases h) fun _ h => by cases h
theorem dc_bor {es : List (List D)} {b b' : Bool} (hb : b = true → b' = true) : DatC hp hp' (.d (.sl es) b) (.d (.sl es) b') := .dat _ _ b b' [] rfl hb fun _ h => by cases h
theorem dl_nil : DatL hp hp' [] [] := .nil
theorem dl_cons {x y : AV} {xs ys : List AV} (h : DatC hp hp' x y) (hs : DatL hp hp' xs ys) : DatL hp hp' (x :: xs) (y :: ys) := .cons h hs
theorem dv_same {x y : AV} (h : x = y) : DatV hp hp' x y := by subst h; exact .same _
theorem dv_ag {x : AV} {cs ds : List AV} (h0 : x = .ag cs) (h : DatL hp hp' cs ds) : DatV hp hp' x (.ag ds) := by subst h0; exact .ag h
theorem dv_c {x y z : AV} (h0 : x = z) (h : DatC hp hp' z y) : DatV hp hp' x y := by
  subst h0
  cases h with
  | same => exact .same _
  | dat d b b' is h hb hi =>
    refine .dat _ d b b' is ?_ hb hi
    cases x with
    | ag _ => simp [toD1] at h
    | d y c => cases y <;> first | exact h | simp [toD1] at h
    | _ => exact h
theorem dh_no : ∀ i o', noHp i = some o' → ∃ o, hp i = some o ∧ DatO hp hp' o o' := fun _ _ h => by cases h
theorem dh_upd {hp2 : Hp} {k : Nat} {x : Option AO} (h : ∀ o', x = some o' → ∃ o, hp k = some o ∧ DatO hp hp' o o') (hw : ∀ i o', hp2 i = some o' → ∃ o, hp i = some o ∧ DatO hp hp' o o') : ∀ i o', upd k x hp2 i = some o' → ∃ o, hp i = some o ∧ DatO hp hp' o o' := fun i o' => by
  unfold upd
  split
  · rename_i e; subst e; exact h o'
  · exact hw i o'
theorem dh_eq {k : Nat} {x : Option AO} (h : hp k = x) : ∀ o', x = some o' → ∃ o, hp k = some o ∧ DatO hp hp' o o' := fun o' e => ⟨o', h.trans e, .same _⟩
theorem dh_fz {k : Nat} {es : List (List D)} {sz v : Nat} {br fz : Bool} (h : hp k = some (.rw es sz v br fz)) : ∀ o', some (AO.rw es sz v br true) = some o' → ∃ o, hp k = some o ∧ DatO hp hp' o o' := fun o' e => by
  cases e
  exact ⟨_, h, .fz es sz v br fz⟩
theorem dh_bx {k : Nat} {cs ds : List AV} (h : hp k = some (.bx cs)) (hl : DatL hp hp' cs ds) : ∀ o', some (AO.bx ds) = some o' → ∃ o, hp k = some o ∧ DatO hp hp' o o' := fun o' e => by
  cases e
  exact ⟨_, h, .bx hl⟩
end
theorem renM_map {β : Type} {ρ : Nat → Option Nat} {kv : β → Value × AV} (h : ∀ v, renA ρ (kv v).2 = some (kv v).2) : ∀ es : List β, renM ρ (es.map kv) = some (es.map kv)
  | [] => rfl
  | p :: r => by
    have e : kv p = ((kv p).1, (kv p).2) := rfl
    rw [List.map_cons, e, renM, h p, renM_map h r]
theorem renO_encM {K V : Type} {ρ : Nat → Option Nat} {kv : K → Value} {ev : V → AV} (h : ∀ v, renA ρ (ev v) = some (ev v)) (m : List (K × V)) (dl : Bool) : renO ρ (.mo (encM kv ev m) dl) = some (.mo (encM kv ev m) dl) := by
  show Option.map _ (renM ρ (List.map (fun p => (kv p.1, ev p.2)) m)) = _
  rw [renM_map (fun p => h p.2)]
  rfl
/-- Part of a row. -/
theorem part_map {α : Type} {xs ys : List α} {lo hi : Nat} (f : α → List D) (h : ys = (xs.take hi).drop lo) : List.take (hi - lo) (List.drop lo (List.map f xs)) = List.map f ys := by
  rw [h, ← List.map_drop, ← List.map_take, List.drop_take]
@[go_sem] theorem toA_acc (hp : Hp) (id ver : Nat) (es : List (List D)) : toA hp (accV id ver es) = (accT (hp id) ver id es).map fun (d, b, is) => (.d d, b, is) := by
  rw [← toD1_acc]
  cases es <;> rfl
@[go_sem] theorem toP_acc (hp : Hp) (id ver : Nat) (es : List (List D)) : toP hp (accV id ver es) = accT (hp id) ver id es := by
  rw [← toD1_acc]
  cases es <;> rfl
@[go_sem] theorem appB_nil {tab : Nat → TI} {nid T T' : Nat} (h : T = T' ∧ (tab T).kind = .slice ∧ (tab (tab T).elem).ok ∧ 0 < (tab (tab T).elem).size) (ys : List (List D)) (b : Bool) (is : List Nat) (id ver : Nat) (o : Option AO) :
    appB tab nid T T' (some (ys, b, is)) id ver [] o = if chk (tab (tab T).elem).size ys ∧ (tab (tab T).elem).bytes ≤ 32768 ∧ ys.length ≤ 4294967296 then
      (if ys.length = 0 then some (.v (.slice none 0 0), []) else some (.so nid 0 0 ys.length, [(nid, .rw ys (tab (tab T).elem).size 0 b false)])) else none := by
  unfold appB
  rw [if_pos h]
@[go_sem] theorem appB_pos {tab : Nat → TI} {nid T T' : Nat} (h : T = T' ∧ (tab T).kind = .slice ∧ (tab (tab T).elem).ok ∧ 0 < (tab (tab T).elem).size) (ys : List (List D)) (b : Bool) (is : List Nat) (id ver : Nat) (es es' : List (List D)) (sz v : Nat) (br : Bool) (hp : 0 < es.length) :
    appB tab nid T T' (some (ys, b, is)) id ver es (some (.rw es' sz v br false)) = if ver = v ∧ es.length ≤ es'.length ∧ sz = (tab (tab T).elem).size ∧ chk sz ys ∧ (tab (tab T).elem).bytes ≤ 32768 ∧ es.length + ys.length ≤ 4294967296 then
            some (.so id (v + 1) 0 (es.length + ys.length), [(id, .rw (es'.take es.length ++ ys) sz (v + 1) (br || b) false)]) else none := by
  unfold appB
  rw [if_pos h]
  cases es with
  | nil => simp at hp
  | cons e r => rfl
theorem part_all {α : Type} {xs ys : List α} {lo : Nat} (f : α → List D) (h : ys = List.drop lo xs) : List.take ys.length (List.drop lo (List.map f xs)) = List.map f ys := by
  rw [h, ← List.map_drop, show (List.drop lo xs).length = (List.map f (List.drop lo xs)).length from (List.length_map _).symm, List.take_length]
theorem part_mid {α : Type} {xs ys : List α} {lo hi : Nat} (f : α → List D) (h : ys = List.drop lo (List.take hi xs)) : List.take ys.length (List.drop lo (List.map f xs)) = List.map f ys := by
  rw [h, List.drop_take, ← List.map_drop, List.length_take, List.map_take]
  conv => rhs; rw [List.take_eq_take_min]
  rw [List.length_map]
theorem part_ini {α : Type} {xs ys : List α} {hi : Nat} (f : α → List D) (h : ys = List.drop 0 (List.take hi xs)) : List.take ys.length (List.map f xs) = List.map f ys := by
  have := part_mid f h
  rwa [List.drop_zero] at this
end Go.Proofs.Ytedgdpncienjiaa.Ab
