/-
 Entries are taken out of a map; what a call leaves, told as data.
-/
import Derived.Test.YtjkdbakgnnhdnaaSda
namespace Go.Proofs.Ytjkdbakgnnhdnaa.Ab
open Go.RowKit
structure Gro where
 ab : List (GRef × Int)
 cnt : Int
 e : Int
def mdel {K V : Type} [BEq K] (k : K) : List (K × V) → List (K × V)
 | [] => []
 | p :: r => if k == p.1 then r else p :: mdel k r
def refZ : GRef := ⟨⟨ByteArray.empty, ByteArray.empty⟩, ByteArray.empty⟩
def refOf (s : GSub) : GRef := ⟨⟨s.type_, s.id_⟩, s.rel⟩
def beginM (d : Int) (w : Gro) : Bool × Gro :=
 if w.e == 0 then (if decide (200 < d) then (false, ⟨w.ab, IntKind.i64.wrap (w.cnt + 1), 10⟩) else if decide (20000 < IntKind.i64.wrap (w.cnt + 1)) then (false, ⟨w.ab, IntKind.i64.wrap (w.cnt + 1), 8⟩) else (true, ⟨w.ab, IntKind.i64.wrap (w.cnt + 1), w.e⟩)) else (false, w)
def refsM (rf : Gro → GRef → Option (GNode × Gro)) : List GRef → Gro → Option (List GNode × Gro)
 | [], w => some ([], w)
 | r :: l, w => (rf w r).bind fun p => (refsM rf l p.2).map fun q => (p.1 :: q.1, q.2)
def subsOf (l : List GSub) : List GSub := l.filter fun s => s.rel.toList == ByteArray.empty.toList
def kidsOf (l : List GSub) : List GRef := (l.filter fun s => !(s.rel.toList == ByteArray.empty.toList)).map refOf
def leafM (n : Nat) (G : SeekGraph) (rf : Gro → GRef → Option (GNode × Gro)) (r : GRef) (w : Gro) : Option (GNode × Gro) :=
 (look_left_Subs n G.index.left r.obj r.rel).bind fun ss => if ss.length < 1000000000 then (refsM rf (kidsOf ss) w).map fun q => (⟨1, r, subsOf ss, q.1⟩, q.2) else none
def refM (n : Nat) (G : SeekGraph) : Nat → Int → Gro → GRef → Option (GNode × Gro)
 | 0, _, _, _ => none
 | f + 1, d, w, r =>
  if (beginM d w).1 then
   (if decide (0 < mgetD r 0 (beginM d w).2.ab) then some (⟨6, r, [], []⟩, (beginM d w).2)
   else (well_Schema_Rel n G.schema r.obj.type_ r.rel).bind fun rel => if rel.1.expr.isEmpty then
    (leafM n G (refM n G f (IntKind.i64.wrap (d + 1))) r ⟨mset r 1 (beginM d w).2.ab, (beginM d w).2.cnt, (beginM d w).2.e⟩).map fun p => (p.1, ⟨mdel r p.2.ab, p.2.cnt, p.2.e⟩) else none)
  else some (⟨0, refZ, [], []⟩, (beginM d w).2)
theorem mfind_del {K V : Type} [BEq K] {q : Bool × List TK} {kv : K → Value} {ev : V → AV} (hk : KeyE q kv) (k : K) : ∀ m : List (K × V), (mhas k m = true ∧ ∃ i v, mfind q (kv k) (encM kv ev m) = some (some (i, v)) ∧ (encM kv ev m).eraseIdx i = encM kv ev (mdel k m)) ∨ (mhas k m = false ∧ mfind q (kv k) (encM kv ev m) = some none ∧ mdel k m = m)
 | [] => .inr ⟨rfl, rfl, rfl⟩
 | p :: r => by
  have ih := mfind_del (ev := ev) hk k r
  have e : encM kv ev (p :: r) = (kv p.1, ev p.2) :: encM kv ev r := rfl
  rw [e]
  unfold mfind
  rw [hk k p.1]
  cases hb : (k == p.1) with
  | true =>
   refine .inl ⟨by simp [mhas, mget, hb], 0, ev p.2, rfl, ?_⟩
   simp [mdel, hb]
  | false =>
   have g : mhas k (p :: r) = mhas k r := by simp [mhas, mget, hb]
   have g2 : mdel k (p :: r) = p :: mdel k r := by simp [mdel, hb]
   rw [g, g2]
   rcases ih with ⟨h1, i, v, h2, h3⟩ | ⟨h1, h2, h3⟩
   ·refine .inl ⟨h1, i + 1, v, by simp only [h2], ?_⟩
    rw [List.eraseIdx_cons_succ, h3]
    rfl
   ·exact .inr ⟨h1, by simp only [h2], by rw [h3]⟩
def delO (q : Option (Bool × List TK)) (kv : Option Value) (x : AV) (hp : Hp) : Option (AV × List (Nat × AO)) :=
 match q, kv with
 | some q, some kv => if wfKey q kv then match x with
  | .mo i => match hp i with
   | some (.mo es _) => match mfind q kv es with
    | some none => some (.tu [], [])
    | some (some (j, _)) => some (.tu [], [(i, .mo (es.eraseIdx j) true)])
    | none => none
   | _ => none
  | _ => none else none
 | _, _ => none
@[go_sem ↓ high] theorem evalOp_del {tab : Nat → TI} (ρ : Operand → AV) (hp : Hp) (id T T' : Nat) (m k : Operand) : evalOp tab ρ hp id (.call { callee := .builtin .delete, args := #[m, k], argTypes := #[T, T'] }) = delO (tab T).mkey (keyA (ρ k)) (ρ m) hp := rfl
theorem InlOK.weakR {P : Program} {f : FuncId} {vs : List AV} {hp : Hp} {nx : Nat} {R R' : AV → Hp → Nat → Prop} (h : InlOK P f vs hp nx R) (k : ∀ v hp2 nx2, R v hp2 nx2 → nx ≤ nx2 → ∃ v' hp' nx', WeakR nx ⟨upd 0 v' noFr, hp', nx'⟩ ⟨upd 0 v noFr, hp2, nx2⟩ ∧ R' v' hp' nx') :
  InlOK P f vs hp nx R' := by
 refine ⟨h.1, fun g c args h1 h2 h3 h4 h5 => ?_⟩
 let g0 : Gh := ⟨g.base, g.M0, 0⟩
 refine (h.2 g0 c args h1 h2 (h3.fb 0) h4 fun j x hj => by obtain ⟨u, e1, e2⟩ := h5 j x hj; exact ⟨u, e1, e2.tr (Trp.fb g c 0)⟩).mono ?_
 rintro e w' ⟨u, v, c', nx', e1, e2, e3, e4, e5, e6, e7, e8⟩
 obtain ⟨v0, hp0, nx0, hk, hR⟩ := k v c'.hp nx' e2 e7
 obtain ⟨a, ha, hd⟩ : ∃ a : Act, a.tmps = #[u] ∧ a.defers = [] := ⟨{ tmps := #[u], defers := [] }, rfl, rfl⟩
 have hs : Sim g0 ⟨upd 0 v noFr, c'.hp, nx'⟩ c' a 1 := by
  refine ⟨rfl, e5, fun i hi => ?_, fun t => ?_, by rw [ha]; rfl, Nat.zero_le _, by rw [hd]; trivial⟩
  ·rcases e8 i hi with h6 | h6
   ·exact Nat.lt_of_lt_of_le (h2 i h6) e7
   ·exact h6.2
  ·cases t with
   | zero => rw [ha]; exact e6
   | succ t => trivial
 obtain ⟨c2, q1, q2, q3, q4, q5⟩ := hs.weakR e7 hk
 have hu : RAt g0 c2 v0 u := by
  have := q1.fr 0
  rw [ha] at this
  exact this
 have tu := Trp.unfb g c2 0
 have hn : nx ≤ nx0 := q4
 refine ⟨u, v0, c2, nx0, e1, by rw [q1.hp]; exact hR, q2.trans e3, (e4.toR.trans q3).toE (h3.fb 0) h2, q1.hr.tr tu q1.hr.le q1.hr.m0 (fun id o ho => (q1.hr.dom id o ho).2.1) (Nat.le_refl _), hu.tr tu, hn, fun i hi => ?_⟩
 have hi2 := q1.kn i hi
 rcases q5 i hi with h6 | h6
 ·rcases e8 i h6 with h7 | h7
  ·exact .inl h7
  ·exact .inr ⟨h7.1, hi2⟩
 ·exact .inr ⟨h6, hi2⟩
end Go.Proofs.Ytjkdbakgnnhdnaa.Ab
