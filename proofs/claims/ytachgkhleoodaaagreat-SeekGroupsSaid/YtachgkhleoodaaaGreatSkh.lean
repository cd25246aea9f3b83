/-
 SeekGroups: the law's own reckoning, and the law. No program in sight.
-/
import Derived.Test.YtachgkhleoodaaaGreatSkj
import Derived.Test.YtachgkhleoodaaaGreatSgb
namespace Go.Proofs.YtachgkhleoodaaaGreat.Ab
open Go.RowKit
abbrev nGrp : Nat := 2000000
def nm8 (i : Nat) : ByteArray := { data := #[(97 + i).toUInt8] }
theorem c1_some {i : Nat} (h : i < 8) : law9_SeekGroups_c1 nGrp (i : Int) = some (nm8 i) := by
 match i, h with
 | 0, _ | 1, _ | 2, _ | 3, _ | 4, _ | 5, _ | 6, _ | 7, _ => rfl
theorem nm8_inj {i j : Nat} (hi : i < 8) (hj : j < 8) (h : nm8 i = nm8 j) : i = j := by
 have h1 : (97 + i).toUInt8 = (97 + j).toUInt8 := by
  unfold nm8 at h
  injection h with h
  injection h with h
  injection h with h _
 have h2 := congrArg UInt8.toNat h1
 simp at h2
 omega
theorem idAll : ((List.range 8).all fun i => decide (atom_ID nGrp (nm8 i) = some true)) = true := by kernel_rfl
theorem idOk {i : Nat} (h : i < 8) : atom_ID nGrp (nm8 i) = some true := of_decide_eq_true (List.all_eq_true.1 idAll i (List.mem_range.2 h))
noncomputable def cDec (p : Prop) : Bool := @decide p (Classical.propDecidable p)
theorem cDec_iff {p : Prop} : cDec p = true ↔ p := @decide_eq_true_iff p (Classical.propDecidable p)
def bX : ByteArray := { data := #[120] }
def bY : ByteArray := { data := #[121] }
def tE (a b : Nat) : GTuple := ⟨⟨bG, nm8 b⟩, bM, ⟨bG, nm8 a, bM⟩⟩
def tW (w : Nat) : GTuple := ⟨⟨bG, nm8 w⟩, bM, ⟨bU, bX, ByteArray.empty⟩⟩
def nG (i : Nat) : GRef := ⟨⟨bG, nm8 i⟩, bM⟩
theorem nmOk : atom_Name nGrp bG = some true ∧ atom_Name nGrp bM = some true ∧ atom_Name nGrp bU = some true ∧ atom_ID nGrp bX = some true := ⟨by kernel_rfl, by kernel_rfl, by kernel_rfl, by kernel_rfl⟩
theorem okE {a b : Nat} (ha : a < 8) (hb : b < 8) : tupl_Ok nGrp (tE a b) = some true := by
 unfold tupl_Ok tE
 dsimp only
 rw [nmOk.1, Zo, if_pos rfl, idOk hb, Zo, if_pos rfl, nmOk.2.1, Zo, if_pos rfl, Zo, if_pos rfl, idOk ha, Zo, if_pos rfl, beqS, if_neg (by decide)]
 rfl
theorem okW {w : Nat} (hw : w < 8) : tupl_Ok nGrp (tW w) = some true := by
 unfold tupl_Ok tW
 dsimp only
 rw [nmOk.1, Zo, if_pos rfl, idOk hw, Zo, if_pos rfl, nmOk.2.1, Zo, if_pos rfl, nmOk.2.2.1, Zo, if_pos rfl, nmOk.2.2.2, Zo, if_pos rfl, beqS, if_pos (by decide)]
theorem fitsE {a b : Nat} (ha : a < 8) (hb : b < 8) : well_Schema_Fits nGrp schemaG (tE a b) = some true := by
 unfold well_Schema_Fits
 rw [show well_Schema_Rel nGrp schemaG (tE a b).obj.type_ (tE a b).rel = some (relG, true) from rfl, Zo, okE ha hb, Zo, if_pos rfl]
 rfl
theorem fitsW {w : Nat} (hw : w < 8) : well_Schema_Fits nGrp schemaG (tW w) = some true := by
 unfold well_Schema_Fits
 rw [show well_Schema_Rel nGrp schemaG (tW w).obj.type_ (tW w).rel = some (relG, true) from rfl, Zo, okW hw, Zo, if_pos rfl]
 rfl
theorem of_loop (rs : List GTuple) (hr : ∀ t ∈ rs, well_Schema_Fits nGrp schemaG t = some true) (hl : rs.length ≤ 10000) : seek_Of nGrp typesG rs = (look_Of nGrp rs).bind fun ix => some (⟨schemaG, ix, rs⟩, 0) := by
 have key : ∀ (l out : List GTuple), (∀ t ∈ l, well_Schema_Fits nGrp schemaG t = some true) → out.length + l.length ≤ 10000 → foldK (seek_Of_L1_f nGrp rs (schemaG, 0)) (seek_Of_L1_e nGrp rs (schemaG, 0)) l out = some (out ++ l) := fun l => by
  induction l with
  | nil =>
   intro out _ _
   rw [List.append_nil]
   rfl
  | cons t l ih =>
   intro out h1 h2
   simp only [List.length_cons] at h2
   have st : ∀ k : List GTuple → Option (List GTuple), seek_Of_L1_f nGrp rs (schemaG, 0) out t k = (app out [t]).bind k := fun k => by
    unfold seek_Of_L1_f
    show (well_Schema_Fits nGrp schemaG t).bind _ = _
    rw [h1 t (List.mem_cons_self ..)]
    rfl
   rw [foldK, st, appS (by simp only [List.length_singleton]; omega), Zo, ih _ (fun x hx => h1 x (List.mem_cons_of_mem _ hx)) (by rw [List.length_append, List.length_singleton]; omega), List.append_assoc]
   rfl
 have hL : seek_Of_L1 nGrp rs (schemaG, 0) nGrp (([] : List GTuple), 0) = _ := seek_Of_L1_list nGrp rs (schemaG, 0) (by omega) nGrp [] 0 (by omega) (by show rs.length - 0 < 2000000; omega)
 rw [List.drop_zero, key rs [] hr (by simp only [List.length_nil]; omega), List.nil_append] at hL
 unfold seek_Of
 rw [show well_Of nGrp typesG = some (schemaG, 0) from if_pos rfl, Zo, if_neg (by decide)]
 show (seek_Of_L1 nGrp rs (schemaG, 0) nGrp (([] : List GTuple), 0)).bind _ = _
 rw [hL, Zo]
 cases look_Of nGrp rs with
 | none => rfl
 | some ix =>
  rw [Zo, Zo]
  by_cases h0 : rs.length = 0
  ·rw [decide_eq_true h0, if_pos rfl, List.eq_nil_of_length_eq_zero h0]
  ·rw [decide_eq_false h0, if_neg (by decide)]
inductive RnG (E : List (Nat × Nat)) (w : Nat) : Nat → Prop
 | base : RnG E w w
 | step {a b : Nat} (h : RnG E w a) (h2 : (a, b) ∈ E) : RnG E w b
def rowsG (E : List (Nat × Nat)) (w : Nat) : List GTuple := E.map (fun p => tE p.1 p.2) ++ [tW w]
theorem mem_rowsG {E : List (Nat × Nat)} {w : Nat} {t : GTuple} : t ∈ rowsG E w ↔ (∃ p ∈ E, tE p.1 p.2 = t) ∨ t = tW w := by
 unfold rowsG
 rw [List.mem_append, List.mem_map, List.mem_singleton]
section
variable {E : List (Nat × Nat)} {w : Nat} (hE : ∀ p ∈ E, p.1 < 8 ∧ p.2 < 8) (hEl : E.length ≤ 20) (hw : w < 8)
include hE hw
theorem fitsG : ∀ t ∈ rowsG E w, well_Schema_Fits nGrp schemaG t = some true := fun t ht => by
 rcases mem_rowsG.1 ht with ⟨p, hp, rfl⟩ | rfl
 ·exact fitsE (hE p hp).1 (hE p hp).2
 ·exact fitsW hw
theorem subsG {b : Nat} (hb : b < 8) {s : GSub} : s ∈ fSubs (tO.ofL (rowsG E w)) (nG b).obj (nG b).rel ↔ (∃ a, (a, b) ∈ E ∧ s = ⟨bG, nm8 a, bM⟩) ∨ (b = w ∧ s = ⟨bU, bX, ByteArray.empty⟩) := by
 rw [mem_fSubs]
 constructor
 ·rintro ⟨t, h1, h2, h3, rfl⟩
  rcases mem_rowsG.1 h1 with ⟨p, hp, rfl⟩ | rfl
  ·have h4 : nm8 p.2 = nm8 b := by
    have := congrArg GObj.id_ h2
    exact this
   have := nm8_inj (hE p hp).2 hb h4
   exact .inl ⟨p.1, this ▸ hp, rfl⟩
  ·have h4 : nm8 w = nm8 b := congrArg GObj.id_ h2
   exact .inr ⟨(nm8_inj hw hb h4).symm, rfl⟩
 ·rintro (⟨a, h1, rfl⟩ | ⟨rfl, rfl⟩)
  ·exact ⟨tE a b, mem_rowsG.2 (.inl ⟨(a, b), h1, rfl⟩), rfl, rfl, rfl⟩
  ·exact ⟨tW b, mem_rowsG.2 (.inr rfl), rfl, rfl, rfl⟩
theorem depsG {b : Nat} (hb : b < 8) {d : GRef} : d ∈ refsOf (fSubs (tO.ofL (rowsG E w)) (nG b).obj (nG b).rel) ↔ ∃ a, (a, b) ∈ E ∧ d = nG a := by
 rw [mem_refsOf]
 constructor
 ·rintro ⟨s, h1, h2, rfl⟩
  rcases (subsG hE hw hb).1 h1 with ⟨a, h3, rfl⟩ | ⟨_, rfl⟩
  ·exact ⟨a, h3, rfl⟩
  ·exact absurd rfl h2
 ·rintro ⟨a, h1, rfl⟩
  exact ⟨⟨bG, nm8 a, bM⟩, (subsG hE hw hb).2 (.inl ⟨a, h1, rfl⟩), fun h => absurd (show bM = { data := #[] } from h) (by decide), rfl⟩
include hEl
theorem hasG {i : Nat} (hi : i < 8) (s : GSub) (hs : s.type_ = bU) : ∃ b, seek_Graph_Has nGrp ⟨schemaG, ixO (rowsG E w), rowsG E w⟩ ⟨bG, nm8 i⟩ bM s = some b ∧ (b = true ↔ s = ⟨bU, bX, ByteArray.empty⟩ ∧ RnG E w i) := by
 have hrl : (rowsG E w).length ≤ 10000 := by
  unfold rowsG
  rw [List.length_append, List.length_map, List.length_singleton]
  omega
 have hUm : ∀ r ∈ (List.range 8).map nG, ∃ b, b < 8 ∧ r = nG b := fun r hr => by
  obtain ⟨b, h1, rfl⟩ := List.mem_map.1 hr
  exact ⟨b, List.mem_range.1 h1, rfl⟩
 have hUi : ∀ b, b < 8 → nG b ∈ (List.range 8).map nG := fun b hb => List.mem_map_of_mem (List.mem_range.2 hb)
 have gInj : ∀ {a b : Nat}, a < 8 → b < 8 → nG a = nG b → a = b := fun ha hb h => nm8_inj ha hb (congrArg (fun r : GRef => r.obj.id_) h)
 obtain ⟨K, S, h1, h2, h3, h4, h5⟩ := has_direct (n := nGrp) (sc := schemaG) (l := rowsG E w) (r0 := rowsG E w) (o := ⟨bG, nm8 i⟩) (rel := bM) (s := s) (U := (List.range 8).map nG) hrl (by decide) (by
  exact List.pairwise_map.2 (List.Pairwise.imp_of_mem (fun ha hb hne h => hne (gInj (List.mem_range.1 ha) (List.mem_range.1 hb) h)) List.nodup_range)) (by simp) (hUi i hi) (fun r hr => by
  obtain ⟨b, _, rfl⟩ := hUm r hr
  exact ⟨rfl, rfl⟩) (fun r hr d hd => by
  obtain ⟨b, hb, rfl⟩ := hUm r hr
  obtain ⟨a, ha, rfl⟩ := (depsG hE hw hb).1 hd
  exact hUi a (hE _ ha).1)
 refine ⟨_, h1, ?_, ?_⟩
 ·intro hS
  have := h5.low 0 (fun r => cDec (s = ⟨bU, bX, ByteArray.empty⟩ ∧ ∃ b, b < 8 ∧ r = nG b ∧ RnG E w b)) (fun _ _ h => absurd h (by omega)) (fun r hr _ hn => by
   obtain ⟨b, hb, rfl⟩ := hUm r (h3 r hr)
   rw [Bool.or_eq_true] at hn
   rw [cDec_iff]
   rcases hn with hn | hn
   ·rcases (subsG hE hw hb).1 (of_decide_eq_true hn) with ⟨a, _, e⟩ | ⟨rfl, e⟩
    ·rw [e] at hs
     have := congrArg (fun x : ByteArray => x.data.toList) hs
     simp [bG, bU] at this
    ·exact ⟨e, b, hb, rfl, .base⟩
   ·obtain ⟨d, hd, ht⟩ := List.any_eq_true.1 hn
    obtain ⟨a, ha, rfl⟩ := (depsG hE hw hb).1 hd
    obtain ⟨e, c, hc, e2, hr⟩ := cDec_iff.1 ht
    have := gInj (hE _ ha).1 hc e2
    subst this
    exact ⟨e, b, hb, rfl, .step hr ha⟩) _ h2 rfl hS
  obtain ⟨e, b, hb, e2, hr⟩ := cDec_iff.1 this
  have := gInj hi hb e2
  subst this
  exact ⟨e, hr⟩
 ·rintro ⟨rfl, hr⟩
  have key : ∀ j, RnG E w j → j < 8 → nG j ∈ K → S (nG j) = true := fun j hj => by
   induction hj with
   | base =>
    intro hj8 hK
    rw [h5.fix _ hK, Bool.or_eq_true]
    exact .inl (decide_eq_true ((subsG hE hw hj8).2 (.inr ⟨rfl, rfl⟩)))
   | @step a b _ hab ih =>
    intro hb8 hK
    have hd := (depsG hE hw hb8).2 ⟨a, hab, rfl⟩
    have := ih (hE _ hab).1 (h4 _ hK _ hd)
    rw [h5.fix _ hK, Bool.or_eq_true]
    exact .inr (List.any_eq_true.2 ⟨nG a, hd, this⟩)
  exact key i hr hi h2
theorem checkG {i : Nat} (hi : i < 8) (s : GSub) (hs : s.type_ = bU) (hs2 : s.rel = ByteArray.empty) : ∃ b, seek_Check nGrp typesG (rowsG E w) ⟨bG, nm8 i⟩ bM s = some (b, 0) ∧ (b = true ↔ s = ⟨bU, bX, ByteArray.empty⟩ ∧ RnG E w i) := by
 obtain ⟨b, h1, h2⟩ := hasG hE hEl hw hi s hs
 have hrl : (rowsG E w).length ≤ 10000 := by
  unfold rowsG
  rw [List.length_append, List.length_map, List.length_singleton]
  omega
 refine ⟨b, ?_, h2⟩
 unfold seek_Check
 rw [of_loop _ (fitsG hE hw) hrl, lookOf_some (by omega) (by decide), Zo, Zo, if_neg (by simp)]
 rw [beqS, hs2, if_pos (by decide)]
 show (seek_Graph_Known nGrp ⟨schemaG, ixO (rowsG E w), rowsG E w⟩ bG bM).bind _ = _
 rw [show seek_Graph_Known nGrp ⟨schemaG, ixO (rowsG E w), rowsG E w⟩ bG bM = some true from rfl, Zo, if_pos rfl]
 show (seek_Graph_Has nGrp ⟨schemaG, ixO (rowsG E w), rowsG E w⟩ ⟨bG, nm8 i⟩ bM s).bind _ = _
 rw [h1]
 rfl
end
end Go.Proofs.YtachgkhleoodaaaGreat.Ab
namespace Go.Proofs.YtachgkhleoodaaaGreat.Ab
open Go.RowKit
theorem an7 (t : Int) : IntKind.i64.wrap (an t 7 : Int) = ((an t 7 : Nat) : Int) := wrap_an _ _ (by decide)
theorem an7_lt (t : Int) : an t 7 < 8 := Nat.lt_of_le_of_lt (an_le _ _) (by decide)
theorem aixS {n k : Nat} (h : k < n) : aix n (k : Int) = some k := by
 unfold aix
 rw [if_pos (by omega)]
 rfl
theorem bsetS {α : Type} {xs : List α} {k : Nat} {x : α} (h : k < xs.length) : bset xs k x = some (xs.set k x) := if_pos h
def prs (t0 : List Int) : List (Nat × Nat) := (t0.take 20).map fun x => (an x 7, an (sh x 3) 7)
theorem prs_ok (t0 : List Int) : (∀ p ∈ prs t0, p.1 < 8 ∧ p.2 < 8) ∧ (prs t0).length ≤ 20 := by
 unfold prs
 refine ⟨fun p hp => ?_, by rw [List.length_map, List.length_take]; omega⟩
 obtain ⟨x, _, rfl⟩ := List.mem_map.1 hp
 exact ⟨an7_lt _, an7_lt _⟩
def upOf (E : List (Nat × Nat)) (l : List Bool) : List Bool := E.foldl (fun l p => l.set (p.1 * 8 + p.2) true) l
theorem upOf_len : ∀ (E : List (Nat × Nat)) (l : List Bool), (upOf E l).length = l.length
 | [], _ => rfl
 | p :: E, l => by
  show (upOf E (l.set _ true)).length = _
  rw [upOf_len E, List.length_set]
theorem upOf_get : ∀ (E : List (Nat × Nat)) (l : List Bool) (k : Nat), k < l.length → (∀ p ∈ E, p.1 * 8 + p.2 < l.length) → ((upOf E l)[k]? = some true ↔ l[k]? = some true ∨ ∃ p ∈ E, p.1 * 8 + p.2 = k)
 | [], l, k, _, _ => by simp [upOf]
 | p :: E, l, k, hk, h => by
  have ih := upOf_get E (l.set (p.1 * 8 + p.2) true) k (by rw [List.length_set]; exact hk) (fun q hq => by rw [List.length_set]; exact h q (List.mem_cons_of_mem _ hq))
  show (upOf E (l.set _ true))[k]? = some true ↔ _
  rw [ih]
  have h0 := h p (List.mem_cons_self ..)
  by_cases e : p.1 * 8 + p.2 = k
  ·rw [e, List.getElem?_set_self (by omega)]
   exact ⟨fun _ => .inr ⟨p, List.mem_cons_self .., e⟩, fun _ => .inl rfl⟩
  ·rw [List.getElem?_set_ne e]
   constructor
   ·rintro (h | ⟨q, hq, h⟩)
    ·exact .inl h
    ·exact .inr ⟨q, List.mem_cons_of_mem _ hq, h⟩
   ·rintro (h3 | ⟨q, hq, h3⟩)
    ·exact .inl h3
    ·rcases List.mem_cons.1 hq with rfl | hq
     ·exact absurd h3 e
     ·exact .inr ⟨q, hq, h3⟩
theorem l1_some (t0 : List Int) (hx : t0.length < 9223372036854775808) : ∀ (m c i : Nat) (rs : List GTuple) (up ins : List Bool), m = 20 - i → i ≤ 20 → m < c → up.length = 64 → rs.length ≤ i → law9_SeekGroups_L1 nGrp t0 c (rs, up, ins, (i : Int)) = some (rs ++ (prs (t0.drop i |>.take m)).map (fun p => tE p.1 p.2), upOf (prs (t0.drop i |>.take m)) up, ins)
 | _, 0, _, _, _, _, _, _, h, _, _ => absurd h (Nat.not_lt_zero _)
 | m, c + 1, i, rs, up, ins, hm, hi, hc, hu, hr => by
  unfold law9_SeekGroups_L1
  by_cases h1 : i < t0.length
  ·have e1 : decide ((i : Int) < (t0.length : Int)) = true := decide_eq_true (by omega)
   by_cases h2 : i < 20
   ·have e2 : decide ((i : Int) < 20) = true := decide_eq_true (by omega)
    obtain ⟨m, rfl⟩ : ∃ k, m = k + 1 := ⟨m - 1, by omega⟩
    rw [e1, if_pos rfl, e2, Zo, if_pos rfl, idxS h1, Zo, an7, c1_some (an7_lt _), Zo, an7, c1_some (an7_lt _), Zo, appS (by simp only [List.length_singleton]; omega), Zo, aixS (an7_lt _), Zo, aixS (an7_lt _), Zo, bsetS (by have := an7_lt t0[i]; have := an7_lt (sh t0[i] 3); omega), Zo, wr1 (by omega)]
    rw [l1_some t0 hx m c (i + 1) _ _ _ (by omega) (by omega) (by omega) (by rw [List.length_set]; exact hu) (by rw [List.length_append, List.length_singleton]; omega)]
    have e3 : (t0.drop i).take (m + 1) = t0[i] :: (t0.drop (i + 1)).take m := by
     rw [List.drop_eq_getElem_cons h1]
     rfl
    rw [e3]
    have e4 : ∀ l : List Int, l.length ≤ m → m + 1 ≤ 20 → prs (t0[i] :: l) = (an t0[i] 7, an (sh t0[i] 3) 7) :: prs l := fun l hl hm => by
     unfold prs
     rw [List.take_of_length_le (by simp only [List.length_cons]; omega), List.take_of_length_le (by omega)]
     rfl
    rw [e4 _ (by rw [List.length_take]; omega) (by omega), List.map_cons, List.append_assoc]
    rfl
   ·have e2 : decide ((i : Int) < 20) = false := decide_eq_false (by omega)
    have hm0 : m = 0 := by omega
    subst hm0
    rw [e1, if_pos rfl, e2, Zo, if_neg (by decide)]
    simp [prs, upOf]
  ·have e1 : decide ((i : Int) < (t0.length : Int)) = false := decide_eq_false (by omega)
   rw [e1, if_neg (by decide), Zo, if_neg (by decide), List.drop_eq_nil_of_le (by omega)]
   simp [prs, upOf]
def stp (up : List Bool) (p : Nat × Nat) (l : List Bool) : List Bool := l.set p.2 (if l.getD p.2 false then true else if l.getD p.1 false then up.getD (p.1 * 8 + p.2) false else false)
def rnd (up : List Bool) (ps : List (Nat × Nat)) (l : List Bool) : List Bool := ps.foldl (fun l p => stp up p l) l
theorem l4_some {up : List Bool} (hu : up.length = 64) {a : Nat} (ha : a < 8) : ∀ (m c b : Nat) (l : List Bool), m = 8 - b → b ≤ 8 → m < c → l.length = 8 → law9_SeekGroups_L4 nGrp up (a : Int) c (l, (b : Int)) = some (rnd up ((List.range' b m).map fun b => (a, b)) l)
 | _, 0, _, _, _, _, h, _ => absurd h (Nat.not_lt_zero _)
 | m, c + 1, b, l, hm, hb, hc, hl => by
  unfold law9_SeekGroups_L4
  by_cases h : b < 8
  ·obtain ⟨m, rfl⟩ : ∃ k, m = k + 1 := ⟨m - 1, by omega⟩
   have e1 : decide ((b : Int) < 8) = true := decide_eq_true (by omega)
   have g1 : l[b]? = some (l.getD b false) := by
    rw [List.getD_eq_getElem?_getD, List.getElem?_eq_getElem (by omega)]
    rfl
   have g2 : l[a]? = some (l.getD a false) := by
    rw [List.getD_eq_getElem?_getD, List.getElem?_eq_getElem (by omega)]
    rfl
   have g3 : up[a * 8 + b]? = some (up.getD (a * 8 + b) false) := by
    rw [List.getD_eq_getElem?_getD, List.getElem?_eq_getElem (by omega)]
    rfl
   have ih : law9_SeekGroups_L4 nGrp up (a : Int) c (stp up (a, b) l, IntKind.i64.wrap ((b : Int) + 1)) = some (rnd up ((List.range' b (m + 1)).map fun b => (a, b)) l) := by
    rw [wr1 (by omega), l4_some hu ha m c (b + 1) (stp up (a, b) l) (by omega) (by omega) (by omega) (by unfold stp; rw [List.length_set]; exact hl), List.range'_succ]
    rfl
   rw [e1, if_pos rfl, aixS h, Zo, g1, Zo]
   unfold stp at ih
   dsimp only at ih
   cases h1 : l.getD b false with
   | true =>
    rw [h1, if_pos rfl] at ih
    rw [if_pos rfl, bsetS (by omega), Zo]
    exact ih
   | false =>
    rw [h1, if_neg (by decide)] at ih
    rw [if_neg (by decide), aixS ha, Zo, g2, Zo]
    cases h2 : l.getD a false with
    | true =>
     rw [h2, if_pos rfl] at ih
     rw [if_pos rfl, g3, Zo, bsetS (by omega), Zo]
     exact ih
    | false =>
     rw [h2, if_neg (by decide)] at ih
     rw [if_neg (by decide), bsetS (by omega), Zo]
     exact ih
  ·have e1 : decide ((b : Int) < 8) = false := decide_eq_false (by omega)
   have hm0 : m = 0 := by omega
   subst hm0
   rw [e1, if_neg (by decide)]
   rfl
theorem rnd_len (up : List Bool) : ∀ (ps : List (Nat × Nat)) (l : List Bool), (rnd up ps l).length = l.length
 | [], _ => rfl
 | p :: ps, l => by
  show (rnd up ps (stp up p l)).length = _
  rw [rnd_len up ps]
  unfold stp
  rw [List.length_set]
theorem rnd_app (up : List Bool) (ps qs : List (Nat × Nat)) (l : List Bool) : rnd up (ps ++ qs) l = rnd up qs (rnd up ps l) := List.foldl_append
theorem l3_some {up : List Bool} (hu : up.length = 64) : ∀ (m c a : Nat) (l : List Bool), m = 8 - a → a ≤ 8 → m < c → l.length = 8 → law9_SeekGroups_L3 nGrp up c (l, (a : Int)) = some (rnd up ((List.range' a m).flatMap fun a => (List.range' 0 8).map fun b => (a, b)) l)
 | _, 0, _, _, _, _, h, _ => absurd h (Nat.not_lt_zero _)
 | m, c + 1, a, l, hm, ha, hc, hl => by
  unfold law9_SeekGroups_L3
  by_cases h : a < 8
  ·obtain ⟨m, rfl⟩ : ∃ k, m = k + 1 := ⟨m - 1, by omega⟩
   have e1 : decide ((a : Int) < 8) = true := decide_eq_true (by omega)
   have e4 : law9_SeekGroups_L4 nGrp up (a : Int) nGrp (l, 0) = _ := l4_some hu h 8 nGrp 0 l rfl (by omega) (by show 8 < 2000000; omega) hl
   rw [e1, if_pos rfl, e4, Zo, wr1 (by omega), l3_some hu m c (a + 1) _ (by omega) (by omega) (by omega) (by rw [rnd_len]; exact hl), show List.range' a (m + 1) = a :: List.range' (a + 1) m from rfl, List.flatMap_cons, rnd_app]
  ·have e1 : decide ((a : Int) < 8) = false := decide_eq_false (by omega)
   have hm0 : m = 0 := by omega
   subst hm0
   rw [e1, if_neg (by decide)]
   rfl
def all8 : List (Nat × Nat) := (List.range' 0 8).flatMap fun a => (List.range' 0 8).map fun b => (a, b)
def rnds (up : List Bool) : Nat → List Bool → List Bool
 | 0, l => l
 | m + 1, l => rnds up m (rnd up all8 l)
theorem l2_some {up : List Bool} (hu : up.length = 64) : ∀ (m c a : Nat) (l : List Bool), m = 8 - a → a ≤ 8 → m < c → l.length = 8 → law9_SeekGroups_L2 nGrp up c (l, (a : Int)) = some (rnds up m l)
 | _, 0, _, _, _, _, h, _ => absurd h (Nat.not_lt_zero _)
 | m, c + 1, a, l, hm, ha, hc, hl => by
  unfold law9_SeekGroups_L2
  by_cases h : a < 8
  ·obtain ⟨m, rfl⟩ : ∃ k, m = k + 1 := ⟨m - 1, by omega⟩
   have e1 : decide ((a : Int) < 8) = true := decide_eq_true (by omega)
   have e4 : law9_SeekGroups_L3 nGrp up nGrp (l, 0) = some (rnd up all8 l) := l3_some hu 8 nGrp 0 l rfl (by omega) (by show 8 < 2000000; omega) hl
   rw [e1, if_pos rfl, e4, Zo, wr1 (by omega), l2_some hu m c (a + 1) _ (by omega) (by omega) (by omega) (by rw [rnd_len]; exact hl)]
   rfl
  ·have e1 : decide ((a : Int) < 8) = false := decide_eq_false (by omega)
   have hm0 : m = 0 := by omega
   subst hm0
   rw [e1, if_neg (by decide)]
   rfl
def Yes (l : List Bool) (i : Nat) : Prop := l[i]? = some true
theorem yes_getD {l : List Bool} {i : Nat} : l.getD i false = true ↔ Yes l i := by
 unfold Yes
 rw [List.getD_eq_getElem?_getD]
 cases h : l[i]? with
 | none => simp
 | some b => simp
theorem stp_yes {up l : List Bool} {p : Nat × Nat} {i : Nat} (hp : p.2 < l.length) : Yes (stp up p l) i ↔ Yes l i ∨ (i = p.2 ∧ Yes l p.1 ∧ Yes up (p.1 * 8 + p.2)) := by
 unfold stp
 by_cases e : p.2 = i
 ·unfold Yes
  rw [e, List.getElem?_set_self (by omega)]
  have h1 := yes_getD (l := l) (i := i)
  have h2 := yes_getD (l := l) (i := p.1)
  have h3 := yes_getD (l := up) (i := p.1 * 8 + i)
  unfold Yes at h1 h2 h3
  rw [← h1, ← h2, ← h3]
  cases l.getD i false <;> cases l.getD p.1 false <;> cases up.getD (p.1 * 8 + i) false <;> simp
 ·unfold Yes
  rw [List.getElem?_set_ne e]
  exact ⟨.inl, fun h => h.elim id fun h => absurd h.1.symm e⟩
theorem rnd_mono {up : List Bool} {i : Nat} : ∀ {ps : List (Nat × Nat)} {l : List Bool}, (∀ p ∈ ps, p.2 < l.length) → Yes l i → Yes (rnd up ps l) i
 | [], _, _, h => h
 | p :: ps, l, hp, h => rnd_mono (ps := ps) (fun q hq => by unfold stp; rw [List.length_set]; exact hp q (List.mem_cons_of_mem _ hq)) ((stp_yes (hp p (List.mem_cons_self ..))).2 (.inl h))
theorem rnd_sound {up : List Bool} {R : Nat → Prop} (hR : ∀ a b, R a → Yes up (a * 8 + b) → R b) : ∀ {ps : List (Nat × Nat)} {l : List Bool}, (∀ p ∈ ps, p.2 < l.length) → (∀ i, Yes l i → R i) → ∀ i, Yes (rnd up ps l) i → R i
 | [], _, _, h => h
 | p :: ps, l, hp, h => rnd_sound hR (ps := ps) (fun q hq => by unfold stp; rw [List.length_set]; exact hp q (List.mem_cons_of_mem _ hq)) fun i hi => by
  rcases (stp_yes (hp p (List.mem_cons_self ..))).1 hi with h1 | ⟨rfl, h1, h2⟩
  ·exact h i h1
  ·exact hR _ _ (h _ h1) h2
theorem rnd_step {up : List Bool} : ∀ {ps : List (Nat × Nat)} {l : List Bool}, (∀ p ∈ ps, p.2 < l.length) → ∀ p ∈ ps, Yes l p.1 → Yes up (p.1 * 8 + p.2) → Yes (rnd up ps l) p.2
 | q :: ps, l, hp, p, hm, h1, h2 => by
  have hl : ∀ q' ∈ ps, q'.2 < (stp up q l).length := fun q' hq => by unfold stp; rw [List.length_set]; exact hp q' (List.mem_cons_of_mem _ hq)
  rcases List.mem_cons.1 hm with rfl | hm
  ·exact rnd_mono (ps := ps) hl ((stp_yes (hp p (List.mem_cons_self ..))).2 (.inr ⟨rfl, h1, h2⟩))
  ·exact rnd_step (ps := ps) hl p hm ((stp_yes (hp q (List.mem_cons_self ..))).2 (.inl h1)) h2
theorem all8_ok : ∀ p ∈ all8, p.2 < 8 := by decide
theorem all8_mem {a b : Nat} (ha : a < 8) (hb : b < 8) : (a, b) ∈ all8 := by
 unfold all8
 rw [List.mem_flatMap]
 refine ⟨a, ?_, List.mem_map.2 ⟨b, ?_, rfl⟩⟩ <;> rw [List.mem_range'_1] <;> omega
def cnt (l : List Bool) : Nat := (l.filter fun b => b).length
theorem cnt_lt : ∀ {l l' : List Bool}, l.length = l'.length → (∀ i, Yes l i → Yes l' i) → l ≠ l' → cnt l < cnt l'
 | [], [], _, _, h => absurd rfl h
 | [], _ :: _, h, _, _ => by cases h
 | _ :: _, [], h, _, _ => by cases h
 | x :: l, y :: l', hl, h, hne => by
  have h0 := h 0
  have ht : ∀ i, Yes l i → Yes l' i := fun i hi => by simpa [Yes] using h (i + 1) (by simpa [Yes] using hi)
  have hl2 : l.length = l'.length := by simpa using hl
  by_cases e : l = l'
  ·subst e
   have hxy : x ≠ y := fun e => hne (by rw [e])
   cases x <;> cases y
   ·exact absurd rfl hxy
   ·simp [cnt]
   ·simp [Yes] at h0
   ·exact absurd rfl hxy
  ·have ih := cnt_lt hl2 ht e
   unfold cnt at ih ⊢
   cases x <;> cases y <;> simp [Yes] at h0 ⊢ <;> omega
def Closed (up l : List Bool) : Prop := ∀ a b, a < 8 → b < 8 → Yes l a → Yes up (a * 8 + b) → Yes l b
theorem rnds_all {up : List Bool} (hu : up.length = 64) : ∀ (m : Nat) (l : List Bool), l.length = 8 → Closed up l ∨ 8 < cnt l + m → Closed up (rnds up m l)
 | 0, l, hl, h => by
  rcases h with h | h
  ·exact h
  ·have : cnt l ≤ l.length := List.length_filter_le _ _
   omega
 | m + 1, l, hl, h => by
  have hp : ∀ p ∈ all8, p.2 < l.length := fun p hp => by rw [hl]; exact all8_ok p hp
  refine rnds_all hu m (rnd up all8 l) (by rw [rnd_len]; exact hl) ?_
  by_cases e : l = rnd up all8 l
  ·refine .inl fun a b ha hb h1 h2 => ?_
   rw [← e] at h1
   have := rnd_step hp (a, b) (all8_mem ha hb) h1 h2
   exact this
  ·have := cnt_lt (rnd_len up all8 l).symm (fun i hi => rnd_mono hp hi) e
   rcases h with h | h
   ·refine .inl fun a b ha hb h1 h2 => ?_
    have h3 : ∀ i, Yes (rnd up all8 l) i → i < 8 → Yes l i := rnd_sound (R := fun i => i < 8 → Yes l i) (fun a b h1 h2 hb => by
     have := (List.getElem?_eq_some_iff.1 h2).1
     exact h a b (by omega) hb (h1 (by omega)) h2) hp (fun i hi _ => hi)
    exact rnd_mono hp (h a b ha hb (h3 a h1 ha) h2)
   ·exact .inr (by omega)
theorem rnds_len (up : List Bool) : ∀ (m : Nat) (l : List Bool), (rnds up m l).length = l.length
 | 0, _ => rfl
 | m + 1, l => by
  show (rnds up m (rnd up all8 l)).length = _
  rw [rnds_len up m, rnd_len]
theorem rnds_keep {up : List Bool} {R : Nat → Prop} (hR : ∀ a b, R a → Yes up (a * 8 + b) → R b) : ∀ (m : Nat) (l : List Bool), l.length = 8 → (∀ i, Yes l i → R i) → (∀ i, Yes (rnds up m l) i → R i) ∧ ∀ i, Yes l i → Yes (rnds up m l) i
 | 0, _, _, h => ⟨h, fun _ h => h⟩
 | m + 1, l, hl, h => by
  have hp : ∀ p ∈ all8, p.2 < l.length := fun p hp => by rw [hl]; exact all8_ok p hp
  obtain ⟨h1, h2⟩ := rnds_keep hR m (rnd up all8 l) (by rw [rnd_len]; exact hl) (rnd_sound hR hp h)
  exact ⟨h1, fun i hi => h2 i (rnd_mono hp hi)⟩
theorem upOf_yes {E : List (Nat × Nat)} (hE : ∀ p ∈ E, p.1 < 8 ∧ p.2 < 8) {a b : Nat} (hb : b < 8) : Yes (upOf E (List.replicate 64 false)) (a * 8 + b) ↔ (a, b) ∈ E := by
 have hl : (upOf E (List.replicate 64 false)).length = 64 := by rw [upOf_len, List.length_replicate]
 have hp : ∀ p ∈ E, p.1 * 8 + p.2 < (List.replicate 64 false).length := fun p hp => by have := hE p hp; rw [List.length_replicate]; omega
 constructor
 ·intro h
  have h1 := (List.getElem?_eq_some_iff.1 h).1
  rcases (upOf_get E _ _ (by rw [List.length_replicate]; omega) hp).1 h with h2 | ⟨p, h2, h3⟩
  ·rw [List.getElem?_replicate] at h2
   split at h2 <;> cases h2
  ·have := hE p h2
   have e1 : p.1 = a := by omega
   have e2 : p.2 = b := by omega
   rw [← e1, ← e2]
   exact h2
 ·intro h
  have := hE _ h
  exact (upOf_get E _ _ (by rw [List.length_replicate]; omega) hp).2 (.inr ⟨_, h, rfl⟩)
theorem closure_yes {E : List (Nat × Nat)} (hE : ∀ p ∈ E, p.1 < 8 ∧ p.2 < 8) {w : Nat} (hw : w < 8) {i : Nat} (hi : i < 8) : Yes (rnds (upOf E (List.replicate 64 false)) 8 ((List.replicate 8 false).set w true)) i ↔ RnG E w i := by
 have hu : (upOf E (List.replicate 64 false)).length = 64 := by rw [upOf_len, List.length_replicate]
 have hl : ((List.replicate 8 false).set w true).length = 8 := by rw [List.length_set, List.length_replicate]
 have h0 : ∀ i, Yes ((List.replicate 8 false).set w true) i ↔ i = w := fun i => by
  unfold Yes
  by_cases e : w = i
  ·rw [e, List.getElem?_set_self (by rw [List.length_replicate]; omega)]
   simp
  ·rw [List.getElem?_set_ne e, List.getElem?_replicate]
   constructor
   ·intro h
    split at h <;> cases h
   ·intro h
    exact absurd h.symm e
 have hc := rnds_all hu 8 _ hl (.inr (by
  have : 0 < cnt ((List.replicate 8 false).set w true) := by
   unfold cnt
   refine List.length_pos_iff.2 fun e => ?_
   have h1 : true ∈ (List.replicate 8 false).set w true := List.mem_of_getElem? ((h0 w).2 rfl)
   have h2 : true ∈ ((List.replicate 8 false).set w true).filter fun b => b := List.mem_filter.2 ⟨h1, rfl⟩
   rw [e] at h2
   cases h2
  omega))
 obtain ⟨k1, k2⟩ := rnds_keep (up := upOf E (List.replicate 64 false)) (R := fun i => i < 8 → RnG E w i) (fun a b h1 h2 hb => by
  have := (upOf_yes hE hb).1 h2
  exact .step (h1 (hE _ this).1) this) 8 _ hl (fun i hi _ => by rw [(h0 i).1 hi]; exact .base)
 refine ⟨fun h => k1 i h hi, fun h => ?_⟩
 have key : ∀ j, RnG E w j → Yes (rnds (upOf E (List.replicate 64 false)) 8 ((List.replicate 8 false).set w true)) j := fun j hj => by
  induction hj with
  | base => exact k2 w ((h0 w).2 rfl)
  | step _ h2 ih => exact hc _ _ (hE _ h2).1 (hE _ h2).2 ih ((upOf_yes hE (hE _ h2).2).2 h2)
 exact key i h
theorem l5_some {E : List (Nat × Nat)} (hE : ∀ p ∈ E, p.1 < 8 ∧ p.2 < 8) (hEl : E.length ≤ 20) {w : Nat} (hw : w < 8) {l : List Bool} (hl : l.length = 8) (hy : ∀ i, i < 8 → (Yes l i ↔ RnG E w i)) : ∀ (m c i : Nat), m = 8 - i → i ≤ 8 → m < c → law9_SeekGroups_L5 nGrp typesG (rowsG E w) l c (i : Int) = some (.inl ())
 | _, 0, _, _, _, h => absurd h (Nat.not_lt_zero _)
 | m, c + 1, i, hm, hi, hc => by
  unfold law9_SeekGroups_L5
  by_cases h : i < 8
  ·have e1 : decide ((i : Int) < 8) = true := decide_eq_true (by omega)
   obtain ⟨b, h1, h2⟩ := checkG hE hEl hw h ⟨bU, bX, ByteArray.empty⟩ rfl rfl
   obtain ⟨b', h3, h4⟩ := checkG hE hEl hw h ⟨bU, bY, ByteArray.empty⟩ rfl rfl
   have hb' : b' = false := by
    cases b' with
    | false => rfl
    | true =>
     have := (h4.1 rfl).1
     have := congrArg GSub.id_ this
     exact absurd this (by decide)
   have g1 : l[i]? = some b := by
    have h5 := yes_getD (l := l) (i := i)
    rw [hy i h] at h5
    have : l.getD i false = b := by
     rw [Bool.eq_iff_iff, h5, h2]
     exact ⟨fun h => ⟨rfl, h⟩, fun h => h.2⟩
    rw [← this, List.getD_eq_getElem?_getD, List.getElem?_eq_getElem (by omega)]
    rfl
   rw [e1, if_pos rfl, c1_some h, Zo]
   show (seek_Check nGrp typesG (rowsG E w) ⟨bG, nm8 i⟩ bM ⟨bU, bX, ByteArray.empty⟩).bind _ = _
   rw [h1, Zo, Zo]
   show (seek_Check nGrp typesG (rowsG E w) ⟨bG, nm8 i⟩ bM ⟨bU, bY, ByteArray.empty⟩).bind _ = _
   rw [h3, Zo, if_neg (by simp), if_neg (by simp), aixS h, Zo, g1, Zo, if_pos (by simp), hb', if_neg (by decide), wr1 (by omega)]
   exact l5_some hE hEl hw hl hy (m - 1) c (i + 1) (by omega) (by omega) (by omega)
  ·have e1 : decide ((i : Int) < 8) = false := decide_eq_false (by omega)
   rw [e1, if_neg (by decide)]
theorem law_seekGroups (t0 : List Int) (t1 : Int) (hx : t0.length < 9223372036854775808) : law9_SeekGroups nGrp t0 t1 = some true := by
 obtain ⟨hE, hEl⟩ := prs_ok t0
 have hw := an7_lt t1
 have hu : (upOf (prs t0) (List.replicate 64 false)).length = 64 := by rw [upOf_len, List.length_replicate]
 have hl : ((List.replicate 8 false).set (an t1 7) true).length = 8 := by rw [List.length_set, List.length_replicate]
 have e1 : law9_SeekGroups_L1 nGrp t0 nGrp ([], List.replicate 64 false, List.replicate 8 false, 0) = some ((prs t0).map (fun p => tE p.1 p.2), upOf (prs t0) (List.replicate 64 false), List.replicate 8 false) := by
  have := l1_some t0 hx 20 nGrp 0 [] (List.replicate 64 false) (List.replicate 8 false) rfl (by omega) (by show 20 < 2000000; omega) (by rw [List.length_replicate]) (Nat.le_refl _)
  have e : prs ((t0.drop 0).take 20) = prs t0 := by
   unfold prs
   rw [List.drop_zero, List.take_take]
   rfl
  rw [e] at this
  exact this
 have e2 := l2_some hu 8 nGrp 0 ((List.replicate 8 false).set (an t1 7) true) rfl (by omega) (by show 8 < 2000000; omega) hl
 have e5 := l5_some hE hEl hw (l := rnds (upOf (prs t0) (List.replicate 64 false)) 8 ((List.replicate 8 false).set (an t1 7) true)) (by rw [rnds_len]; exact hl) (fun i hi => closure_yes hE hw hi) 8 nGrp 0 rfl (by omega) (by show 8 < 2000000; omega)
 unfold law9_SeekGroups
 rw [show law8_Types nGrp ({ data := #[116, 121, 112, 101, 32, 117, 32, 116, 121, 112, 101, 32, 103, 32, 123, 32, 109, 58, 32, 117, 32, 124, 32, 103, 35, 109, 59, 32, 125] }) = some typesG from if_pos rfl, Zo, e1, Zo]
 dsimp only
 rw [an7, c1_some hw, Zo, appS (by rw [List.length_map, List.length_singleton]; omega), Zo, aixS hw, Zo, bsetS (by rw [List.length_replicate]; exact hw), Zo]
 show (law9_SeekGroups_L2 nGrp _ nGrp (_, ((0 : Nat) : Int))).bind _ = _
 rw [e2, Zo]
 show (law9_SeekGroups_L5 nGrp typesG (rowsG (prs t0) (an t1 7)) _ nGrp ((0 : Nat) : Int)).bind _ = _
 rw [e5]
 rfl
theorem law_seekGroups_ex (t0 : List Int) (t1 : Int) (h0 : t0.length ≤ maxLen ∧ ∀ y ∈ t0, (Lit.int .i64 y).wf = true) (_h1 : (Lit.int .i64 t1).wf = true) : ∃ n, law9_SeekGroups n t0 t1 = some true := ⟨nGrp, law_seekGroups t0 t1 (Nat.lt_of_le_of_lt h0.1 (by decide))⟩
end Go.Proofs.YtachgkhleoodaaaGreat.Ab
