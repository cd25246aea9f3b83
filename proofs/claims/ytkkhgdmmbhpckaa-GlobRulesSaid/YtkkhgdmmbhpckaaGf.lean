/-
  The policy of numbers.
-/
import Derived.Test.YtkkhgdmmbhpckaaGe
namespace Go.Proofs.Ytkkhgdmmbhpckaa.Ab
open Go.RowKit

/-- What a group touched, by other names. -/
def mapR (f : Nat → Nat) (r : Rec) : Rec := ⟨r.ids.map f, r.ks.map f, r.g⟩
theorem contains_map {f : Nat → Nat} (hf : ∀ a b, f a = f b → a = b) (x : Nat) : ∀ ys : List Nat, (ys.map f).contains (f x) = ys.contains x
  | [] => rfl
  | y :: r => by
    simp only [List.map_cons, List.contains_cons, contains_map hf x r]
    congr 1
    by_cases e : x = y
    · subst e; simp
    · rw [beq_false_of_ne e, beq_false_of_ne fun h => e (hf _ _ h)]
theorem meet_map {f : Nat → Nat} (hf : ∀ a b, f a = f b → a = b) (xs ys : List Nat) : meet (xs.map f) (ys.map f) = meet xs ys := by
  simp only [meet, List.any_map, Function.comp_def, contains_map hf]
theorem confl_map {f : Nat → Nat} (hf : ∀ a b, f a = f b → a = b) (a b : Rec) : confl (mapR f a) (mapR f b) = confl a b := by
  simp only [confl, mapR, ← List.map_append, meet_map hf]
theorem still_map (f : Nat → Nat) (a : Rec) : still (mapR f a) = still a := by
  simp only [still, mapR, List.isEmpty_map]
theorem okRow_map {f : Nat → Nat} (hf : ∀ a b, f a = f b → a = b) (ps : List Nat) (b : Rec) : ∀ (i : Nat) (l : List Rec), okRow ps (mapR f b) i (l.map (mapR f)) = okRow ps b i l
  | _, [] => rfl
  | i, a :: r => by simp only [List.map_cons, okRow, still_map, confl_map hf, okRow_map hf ps b (i + 1) r]
theorem okRows_map {f : Nat → Nat} (hf : ∀ a b, f a = f b → a = b) (rs : List Rec) : ∀ (ps : List (List Nat)) (j : Nat) (l : List Rec), okRows (rs.map (mapR f)) ps j (l.map (mapR f)) = okRows rs ps j l
  | _, _, [] => by cases ‹List (List Nat)› <;> rfl
  | [], j, b :: r => by simp only [List.map_cons, okRows, ← List.map_take, okRow_map hf, okRows_map hf rs [] (j + 1) r]
  | p :: ps, j, b :: r => by simp only [List.map_cons, okRows, ← List.map_take, okRow_map hf, okRows_map hf rs ps (j + 1) r]
theorem okFast_map {f : Nat → Nat} (hf : ∀ a b, f a = f b → a = b) {ops : Array Oper} {rs : List Rec} (h : okFast ops rs = true) : okFast ops (rs.map (mapR f)) = true := by
  simp only [okFast, List.all_map, Function.comp_def, still_map, okRows_map hf] at h ⊢
  exact h
theorem Rd_endM {P : Program} {tab : Nat → TI} {ops : Array Oper} {nx0 nx : Nat} {k : List It} {Q : Ex → St → Prop} {i : Nat} {acc : List Rec} {fr : Nat → AV} {hp : Hp} {f : Nat → Nat} (hf : ∀ a b, f a = f b → a = b) (rs : List Rec) (h : okFast ops rs = true) (he : rs.map (mapR f) = acc.reverse) (h2 : run P tab k Q ⟨fr, hp, nx⟩) : Rd P tab ops nx0 nx k Q i [] acc fr hp :=
  Rd_endF (he ▸ okFast_map hf h) h2
theorem toDs_cons {hp : Hp} {c : AV} {r : List AV} {d : D} {i i' : List Nat} {ds : List D} (h1 : toD1 hp c = some (d, false, i)) (h2 : toDs hp r = some (ds, false, i')) : toDs hp (c :: r) = some (d :: ds, false, i ++ i') := by simp only [toDs, h1, h2, Bool.or_false]
theorem toR_ag {hp : Hp} {cs : List AV} {ds : List D} {b : Bool} {i : List Nat} (h : toDs hp cs = some (ds, b, i)) : toR hp (.ag cs) = some (.ag ds, b, i) := by simp only [toR, toD, h, Option.map_some]
theorem row_toD1 {hp : Hp} {id ver off n sz : Nat} {es : List (List D)} {b sh : Bool} (h : hp id = some (.rw es sz ver b sh)) : toD1 hp (.so id ver off n) = some (.sl ((es.drop off).take n), b, [id]) := by simp only [toD1, h, if_true]
/-- One of a row. -/
def sidS (k : Nat) : ByteArray := match k with
  | 0 => { data := #[115, 48] }
  | 1 => { data := #[115, 49] }
  | 2 => { data := #[115, 50] }
  | 3 => { data := #[115, 51] }
  | 4 => { data := #[115, 52] }
  | 5 => { data := #[115, 53] }
  | 6 => { data := #[115, 54] }
  | _ => { data := #[115, 55] }
theorem sidS_at {k : Nat} (h : k < 8) : ([[D.v (.string { data := #[115, 48] })], [D.v (.string { data := #[115, 49] })], [D.v (.string { data := #[115, 50] })], [D.v (.string { data := #[115, 51] })], [D.v (.string { data := #[115, 52] })], [D.v (.string { data := #[115, 53] })], [D.v (.string { data := #[115, 54] })], [D.v (.string { data := #[115, 55] })]] : List (List D))[k]? = some [D.v (.string (sidS k))] := by
  match k, h with
  | 0, _ => rfl
  | 1, _ => rfl
  | 2, _ => rfl
  | 3, _ => rfl
  | 4, _ => rfl
  | 5, _ => rfl
  | 6, _ => rfl
  | 7, _ => rfl
/-- One of a row. -/
def us3 (k : Nat) : ByteArray := match k with
  | 0 => { data := #[117] }
  | 1 => { data := #[118] }
  | _ => { data := #[119] }
theorem us3_at {k : Nat} (h : k < 3) : ([[D.v (.string { data := #[117] })], [D.v (.string { data := #[118] })], [D.v (.string { data := #[119] })]] : List (List D))[k]? = some [D.v (.string (us3 k))] := by
  match k, h with
  | 0, _ => rfl
  | 1, _ => rfl
  | 2, _ => rfl
abbrev lU : List ByteArray := [{ data := #[117] }, { data := #[118] }, { data := #[119] }]
abbrev lG : List ByteArray := [{ data := #[103] }, { data := #[104] }]
abbrev lA : List ByteArray := [{ data := #[42] }, { data := #[103, 101, 116, 42] }, { data := #[103, 101, 116] }, { data := #[112, 117, 116] }, { data := #[108, 42] }, { data := #[122, 42] }]
abbrev lR : List ByteArray := [{ data := #[42] }, { data := #[97, 42] }, { data := #[98] }, { data := #[97, 98] }, { data := #[97] }]
def stmN (n : Int) : Stm := ⟨sidS (an (sh n 40) 7), ((an n 255 % 4 : Nat) : Int) == 2, fewG (sh n 32) lU 0, fewG (sh n 36) lG 0, fewG (sh n 16) lA 0, fewG (sh n 24) lR 0⟩
def bndN (n : Int) : Bnd := ⟨us3 (an (sh n 8) 255 % 3), fewG (sh n 16) lA 0, fewG (sh n 24) lR 0⟩
/-- What numbers add to a policy. -/
def madeG : List Int → List Stm → List Bnd → List Stm × List Bnd
  | [], s, b => (s, b)
  | n :: l, s, b => if ((an n 255 % 4 : Nat) : Int) == 3 then madeG l s (b ++ [bndN n]) else madeG l (s ++ [stmN n]) b
def polB (x : List Stm × List Bnd) : Pol := ⟨[{ data := #[117] }, { data := #[118] }, { data := #[119] }, { data := #[117] }], [{ data := #[103, 101, 116] }, { data := #[103, 101, 116, 97, 108, 108] }, { data := #[112, 117, 116] }, { data := #[108, 105, 115, 116] }], [{ data := #[97] }, { data := #[97, 98] }, { data := #[98] }],
  [⟨{ data := #[103] }, [{ data := #[117] }, { data := #[118] }, { data := #[117] }]⟩, ⟨{ data := #[104] }, [{ data := #[119] }]⟩], x.1, x.2⟩
def madeP (l : List Int) : Pol := polB (madeG (l.take 8) [] [])
theorem made_ok (l : List Int) : PureOK Try.prog 11 [.sl (l.map fun x => [D.v (.int .i64 x)])] (.ag (polD (madeP l))) true := by
  refine pure_run (tab := tab) tab_ok fol Try.func11 rfl (by kernel_rfl) (by kernel_rfl) (by simp [Try.f11]) ?_
  simp -implicitDefEqProofs only [go_sem, Bool.and_self, beq_self_eq_true, Nat.reduceLT, Nat.reduceEqDiff, Nat.reduceAdd, Nat.reduceMul, Nat.reduceLeDiff, ↓reduceIte, List.map, chk_cons, chk_nil, frz, List.cons_append, List.nil_append]
  refine run_loopA (α := { z0 : Nat × List Stm × List Bnd × Nat × Nat × Nat × Nat × Nat // z0.1 ≤ l.length ∧ z0.1 ≤ 8 ∧ madeG ((l.take 8).drop z0.1) z0.2.1 z0.2.2.1 = madeG (l.take 8) [] [] ∧ 14 ≤ z0.2.2.2.1 ∧ z0.2.2.2.1 < 16 + z0.2.2.2.2.2.2.2 ∧ 14 ≤ z0.2.2.2.2.2.1 ∧ z0.2.2.2.2.2.1 < 16 + z0.2.2.2.2.2.2.2 ∧ z0.2.2.2.1 ≠ z0.2.2.2.2.2.1 ∧ z0.2.1.length ≤ z0.1 ∧ z0.2.2.1.length ≤ z0.1 }) [(5, 8), (18, 88)] [10] (fun z0 fr => upd 5 (.v (.int .i64 (z0.1.1 : Int))) fr) (fun z0 hp => upd (10) (some (.bx [.so 1 0 0 4, .so 2 0 0 4, .so 3 0 0 3, .so 8 0 0 2, accV z0.1.2.2.2.1 z0.1.2.2.2.2.1 (z0.1.2.1.map stmD), accV z0.1.2.2.2.2.2.1 z0.1.2.2.2.2.2.2.1 (z0.1.2.2.1.map bndD)])) (upd (z0.1.2.2.2.1) (accO 6 z0.1.2.2.2.2.1 false (z0.1.2.1.map stmD)) (upd (z0.1.2.2.2.2.2.1) (accO 3 z0.1.2.2.2.2.2.2.1 false (z0.1.2.2.1.map bndD)) (hp)))) (fun z0 => z0.1.2.2.2.2.2.2.2) (fun z0 => 8 - z0.1.1) ⟨(0, [], [], 14, 0, 15, 0, 0), by simp⟩ ⟨wk_upd (by first | rfl | simp [upd_at, forget_at]) (wk_self _ _), wh_upd (by first | rfl | simp [upd_at]) (wh_upd (by first | rfl | simp [upd_at]) (wh_upd (by first | rfl | simp [upd_at]) (wh_cut _ _ _))), by simp⟩ ?_
  rintro ⟨⟨i, ss, bs, is, vs, ib, vb, m⟩, hI⟩
  simp only at hI
  obtain ⟨q1, q2, q3, q4, q5, q6, q7, q8, q9, q10⟩ := hI
  have d1 : ¬ is = 10 := by omega
  have d2 : ¬ ib = 10 := by omega
  have d3 : ¬ ib = is := fun e => q8 e.symm
  have d4 : ¬ (10 : Nat) = is := by omega
  have d5 : ¬ (10 : Nat) = ib := by omega
  have d6 : ¬ is = ib := q8
  have d7 : ¬ (0 : Nat) = is := by omega
  have d8 : ¬ (0 : Nat) = ib := by omega
  by_cases hk : i < l.length ∧ i < 8
  · obtain ⟨hk, hk8⟩ := hk
    have c1 := dec_lt hk
    have c2 : decide ((i : Int) < 8) = true := by simp; omega
    have w1 : IntKind.i64.wrap ((i : Int) + 1) = ((i + 1 : Nat) : Int) := wrap_one (by omega)
    have hkt : i < (l.take 8).length := by simp; omega
    have et : (l.take 8)[i] = l[i] := by simp
    rw [List.drop_eq_getElem_cons hkt, et] at q3
    simp only [madeG] at q3
    have h1 := wrap_an l[i] 255 (by decide)
    have t1 : ((an l[i] 255 : Nat) : Int).tmod 4 = ((an l[i] 255 % 4 : Nat) : Int) := tmod_nat _ 4
    simp -implicitDefEqProofs only [go_sem, Int.reduceToNat, Int.reduceLT, Bool.and_self, beq_self_eq_true, Nat.reduceLT, Nat.reduceEqDiff, Nat.reduceAdd, Nat.reduceLeDiff, reduceCtorEq, ↓reduceIte, c1, c2, at_map hk]
    refine onCall_pure (by simp -implicitDefEqProofs only [go_sem, ↓reduceIte, List.map] <;> rfl) (few_ok (sh l[i] 16) lA (by decide)) (.inr rfl) ?_
    simp -implicitDefEqProofs only [go_sem, Int.reduceToNat, Int.reduceLT, Bool.and_self, beq_self_eq_true, Nat.reduceLT, Nat.reduceEqDiff, Nat.reduceAdd, Nat.reduceLeDiff, ↓reduceIte, List.map, chk_cons, chk_nil]
    refine onCall_pure (by simp -implicitDefEqProofs only [go_sem, ↓reduceIte, List.map] <;> rfl) (few_ok (sh l[i] 24) lR (by decide)) (.inr rfl) ?_
    simp -implicitDefEqProofs only [go_sem, Bool.and_self, Int.reduceEq, Nat.reduceEqDiff, Nat.reduceAdd, ↓reduceIte, h1, t1]
    have hh1 := h1
    refine onC_split (fun h => ?_) (fun h => ?_)
    · have u3 : an (sh l[i] 8) 255 % 3 < 3 := Nat.mod_lt _ (by decide)
      have h2 := wrap_an (sh l[i] 8) 255 (by decide)
      have t2 : ((an (sh l[i] 8) 255 : Nat) : Int).tmod 3 = ((an (sh l[i] 8) 255 % 3 : Nat) : Int) := tmod_nat _ 3
      rw [h] at q3
      obtain ⟨f1, f2, f3, f4, f5⟩ : ¬ is = 14 + m + 8 + 5 + 3 ∧ ¬ is = 14 + m + 8 + 5 + 8 ∧ ¬ is = 14 + m + 8 + 5 + 12 + 4 + 2 ∧ ¬ is = 14 + m + 8 + 5 + 12 + 4 + 12 ∧ ¬ is = 14 + m + 8 + 5 + 12 + 4 + 13 := ⟨by omega, by omega, by omega, by omega, by omega⟩
      rcases bs with _ | ⟨z, r⟩
      · simp -implicitDefEqProofs only [go_sem, Int.reduceToNat, Int.reduceLT, Bool.and_self, beq_self_eq_true, Nat.reduceLT, Int.reduceEq, Nat.reduceEqDiff, Nat.reduceAdd, Nat.reduceMul, Nat.reduceLeDiff, reduceCtorEq, ↓reduceIte, h2, t2, u3, us3_at u3, List.map, chk_cons, chk_nil]
        refine Rd_endF (by rfl) ?_
        simp -implicitDefEqProofs only [go_sem, Nat.reduceEqDiff, Nat.reduceAdd, ↓reduceIte, w1]
        exact ⟨⟨(i + 1, ss, [bndN l[i]], is, vs, 14 + m + 8 + 5 + 12 + 4 + 13, 0, m + 100), ⟨by first | omega | (simp only; omega), by first | omega | (simp only; omega), by simpa using q3, q4, by first | omega | (simp only; omega), by first | omega | (simp only; omega), by first | omega | (simp only; omega), by first | omega | (simp only; omega), by first | omega | (simp only; omega), by simp⟩⟩, ⟨wk_upd (by first | rfl | simp [upd_at, forget_at, accV_app, accV_cons, accV_nil, d1, d2, d3, d4, d5, bndN, f1, f2, f3, f4, f5]) ((by repeat first | exact wk_base _ _ | refine wk_skip rfl ?_ | refine wk_forget rfl ?_)), wh_upd (by first | rfl | simp [upd_at, accO_app, accO_cons, accV_app, accV_cons, accV_nil, accO_nil, d1, d2, d3, d4, d5, bndN, f1, f2, f3, f4, f5]) (wh_upd (by first | rfl | simp [upd_at, d1, f1, f2, f3, f4, f5]) (wh_upd (by first | rfl | simp [upd_at, accO_cons, bndN]) ((by repeat first | exact wh_base _ _ _ | refine wh_skip (by first | (left; first | omega | exact accI_le _ (by omega) (by omega)) | (right; simp)) ?_ | refine wh_cut2 (by omega) (by intro k hk; first | exact absurd hk List.not_mem_nil | (simp only [List.mem_cons, List.not_mem_nil, or_false] at hk ⊢; omega)) ?_)))), by simp only; omega⟩, by simp only; omega⟩
      · have b1 : r.length + 1 + 1 ≤ 4294967296 := by simp at q10; omega
        have b2 : r.length + 1 ≤ i := by simpa using q10
        obtain ⟨e1, e2, e3, e4⟩ : ¬ ib = 14 + m + 8 + 5 + 3 ∧ ¬ ib = 14 + m + 8 + 5 + 8 ∧ ¬ ib = 14 + m + 8 + 5 + 12 + 4 + 2 ∧ ¬ ib = 14 + m + 8 + 5 + 12 + 4 + 12 := ⟨by omega, by omega, by omega, by omega⟩
        simp -implicitDefEqProofs only [go_sem, Int.reduceToNat, Int.reduceLT, Bool.and_self, beq_self_eq_true, Nat.reduceLT, Int.reduceEq, Nat.reduceEqDiff, Nat.reduceAdd, Nat.reduceMul, Nat.reduceLeDiff, reduceCtorEq, ↓reduceIte, h2, t2, u3, us3_at u3, List.map, chk_cons, chk_nil, d2, d3, d5, b1, e1, e2, e3, e4, Nat.le_refl]
        refine Rd_endF (by rfl) ?_
        simp -implicitDefEqProofs only [go_sem, Nat.reduceEqDiff, Nat.reduceAdd, ↓reduceIte, w1]
        exact ⟨⟨(i + 1, ss, z :: r ++ [bndN l[i]], is, vs, ib, vb + 1, m + 100), ⟨by first | omega | (simp only; omega), by first | omega | (simp only; omega), by simpa using q3, q4, by first | omega | (simp only; omega), q6, by first | omega | (simp only; omega), q8, by first | omega | (simp only; omega), by simp; omega⟩⟩, ⟨wk_upd (by first | rfl | simp [upd_at, forget_at, accV_app, accV_cons, accV_nil, d1, d2, d3, d4, d5, d6, bndN, f1, f2, f3, f4, f5]) ((by repeat first | exact wk_base _ _ | refine wk_skip rfl ?_ | refine wk_forget rfl ?_)), wh_upd (by first | rfl | simp [upd_at, accV_cons, bndN]) (wh_upd (by first | rfl | simp [upd_at, d1, d6, f1, f2, f3, f4]) (wh_upd (by first | rfl | simp [upd_at, accO_cons, d2, bndN]) ((by repeat first | exact wh_base _ _ _ | refine wh_skip (by first | (left; first | omega | exact accI_le _ (by omega) (by omega)) | (right; simp)) ?_ | refine wh_cut2 (by omega) (by intro k hk; first | exact absurd hk List.not_mem_nil | (simp only [List.mem_cons, List.not_mem_nil, or_false] at hk ⊢; omega)) ?_)))), by simp only; omega⟩, by simp only; omega⟩
    · rw [h] at q3
      have u3 : an (sh l[i] 40) 7 < 8 := Nat.lt_succ_of_le (an_le _ _)
      have h2 := wrap_an (sh l[i] 40) 7 (by decide)
      obtain ⟨f1, f2, f3, f4, f5, f6, f7⟩ : ¬ ib = 14 + m + 8 + 5 + 3 ∧ ¬ ib = 14 + m + 8 + 5 + 8 ∧ ¬ ib = 14 + m + 8 + 5 + 12 + 4 + 2 ∧ ¬ ib = 14 + m + 8 + 5 + 12 + 4 + 15 ∧ ¬ ib = 14 + m + 8 + 5 + 12 + 4 + 20 ∧ ¬ ib = 14 + m + 8 + 5 + 12 + 4 + 25 ∧ ¬ ib = 14 + m + 8 + 5 + 12 + 4 + 26 := ⟨by omega, by omega, by omega, by omega, by omega, by omega, by omega⟩
      rcases ss with _ | ⟨z, r⟩
      · simp -implicitDefEqProofs only [go_sem, Int.reduceToNat, Int.reduceLT, Bool.and_self, beq_self_eq_true, Nat.reduceLT, Int.reduceEq, Nat.reduceEqDiff, Nat.reduceAdd, Nat.reduceLeDiff, reduceCtorEq, ↓reduceIte, h2, u3, sidS_at u3, List.map, chk_cons, chk_nil]
        refine onCallD_pure (by simp -implicitDefEqProofs only [go_sem, ↓reduceIte, List.map] <;> rfl) (few_ok (sh l[i] 32) lU (by decide)) (.inr rfl) ?_
        simp -implicitDefEqProofs only [go_sem, Int.reduceToNat, Int.reduceLT, Bool.and_self, beq_self_eq_true, Nat.reduceLT, Nat.reduceEqDiff, Nat.reduceAdd, Nat.reduceLeDiff, ↓reduceIte, List.map, chk_cons, chk_nil]
        refine onCallD_pure (by simp -implicitDefEqProofs only [go_sem, ↓reduceIte, List.map] <;> rfl) (few_ok (sh l[i] 36) lG (by decide)) (.inr rfl) ?_
        simp -implicitDefEqProofs only [go_sem, Bool.and_self, beq_self_eq_true, Nat.reduceLT, Nat.reduceEqDiff, Nat.reduceAdd, Nat.reduceMul, Nat.reduceLeDiff, reduceCtorEq, ↓reduceIte, List.map, chk_cons, chk_nil, h1, t1]
        refine Rd_endM (f := fun a => if a < 14 then a else a + m + 2) (by
            intro a b
            split <;> split <;> omega) ([⟨[10, 67], [10], false⟩, ⟨[], [], false⟩, ⟨[66], [67], false⟩, ⟨[], [66], false⟩, ⟨[], [], false⟩, ⟨[], [], false⟩, ⟨[], [], false⟩, ⟨[61], [], false⟩, ⟨[], [61], false⟩, ⟨[], [], false⟩, ⟨[], [], false⟩, ⟨[], [], false⟩, ⟨[56], [], false⟩, ⟨[], [56], false⟩, ⟨[], [], false⟩, ⟨[], [], false⟩, ⟨[], [], false⟩, ⟨[], [], false⟩, ⟨[], [], false⟩, ⟨[], [], false⟩, ⟨[], [], false⟩, ⟨[43], [], false⟩, ⟨[43], [], false⟩, ⟨[], [], false⟩, ⟨[], [], false⟩, ⟨[], [], false⟩, ⟨[], [43], false⟩, ⟨[10], [], false⟩, ⟨[], [], false⟩]).reverse (by rfl) (by
            have k2 : 67 + m + 2 = 14 + m + 8 + 5 + 12 + 4 + 26 := by omega
            have k3 : 66 + m + 2 = 14 + m + 8 + 5 + 12 + 4 + 25 := by omega
            have k4 : 61 + m + 2 = 14 + m + 8 + 5 + 12 + 4 + 20 := by omega
            have k5 : 56 + m + 2 = 14 + m + 8 + 5 + 12 + 4 + 15 := by omega
            have k6 : 43 + m + 2 = 14 + m + 8 + 5 + 12 + 4 + 2 := by omega
            simp only [List.reverse_cons, List.reverse_nil, List.nil_append, List.cons_append, List.map_cons, List.map_nil, mapR, Nat.reduceLT, ↓reduceIte, k2, k3, k4, k5, k6]) ?_
        simp -implicitDefEqProofs only [go_sem, Nat.reduceEqDiff, Nat.reduceAdd, ↓reduceIte, w1]
        exact ⟨⟨(i + 1, [stmN l[i]], bs, 14 + m + 8 + 5 + 12 + 4 + 26, 0, ib, vb, m + 100), ⟨by first | omega | (simp only; omega), by first | omega | (simp only; omega), by simpa using q3, by first | omega | (simp only; omega), by first | omega | (simp only; omega), q6, by first | omega | (simp only; omega), by first | omega | (simp only; omega), by simp, by first | omega | (simp only; omega)⟩⟩, ⟨wk_upd (by first | rfl | simp [upd_at, forget_at, accV_app, accV_cons, accV_nil, d1, d2, d3, d4, d5, stmN, f1, f2, f3, f4, f5, f6, f7]) ((by repeat first | exact wk_base _ _ | refine wk_skip rfl ?_ | refine wk_forget rfl ?_)), wh_upd (by first | rfl | simp [upd_at, accO_app, accO_cons, accV_app, accV_cons, accV_nil, accO_nil, d1, d2, d3, d4, d5, stmN, f1, f2, f3, f4, f5, f6, f7]) (wh_upd (by first | rfl | simp [upd_at, accO_cons, stmN]) (wh_upd (by first | rfl | simp [upd_at, d2, d3, f1, f2, f3, f4, f5, f6, f7]) ((by repeat first | exact wh_base _ _ _ | refine wh_skip (by first | (left; first | omega | exact accI_le _ (by omega) (by omega)) | (right; simp)) ?_ | refine wh_cut2 (by omega) (by intro k hk; first | exact absurd hk List.not_mem_nil | (simp only [List.mem_cons, List.not_mem_nil, or_false] at hk ⊢; omega)) ?_)))), by simp only; omega⟩, by simp only; omega⟩
      · have b1 : r.length + 1 + 1 ≤ 4294967296 := by simp at q9; omega
        have b2 : r.length + 1 ≤ i := by simpa using q9
        obtain ⟨e1, e2, e3, e4, e5, e6, e7⟩ : ¬ is = 14 + m + 8 + 5 + 3 ∧ ¬ is = 14 + m + 8 + 5 + 8 ∧ ¬ is = 14 + m + 8 + 5 + 12 + 4 + 2 ∧ ¬ is = 14 + m + 8 + 5 + 12 + 4 + 15 ∧ ¬ is = 14 + m + 8 + 5 + 12 + 4 + 20 ∧ ¬ is = 14 + m + 8 + 5 + 12 + 4 + 25 ∧ ¬ is = 14 + m + 8 + 5 + 12 + 4 + 26 := ⟨by omega, by omega, by omega, by omega, by omega, by omega, by omega⟩
        simp -implicitDefEqProofs only [go_sem, Int.reduceToNat, Int.reduceLT, Bool.and_self, beq_self_eq_true, Nat.reduceLT, Int.reduceEq, Nat.reduceEqDiff, Nat.reduceAdd, Nat.reduceLeDiff, reduceCtorEq, ↓reduceIte, h2, u3, sidS_at u3, List.map, chk_cons, chk_nil]
        refine onCallD_pure (by simp -implicitDefEqProofs only [go_sem, ↓reduceIte, List.map] <;> rfl) (few_ok (sh l[i] 32) lU (by decide)) (.inr rfl) ?_
        simp -implicitDefEqProofs only [go_sem, Int.reduceToNat, Int.reduceLT, Bool.and_self, beq_self_eq_true, Nat.reduceLT, Nat.reduceEqDiff, Nat.reduceAdd, Nat.reduceLeDiff, ↓reduceIte, List.map, chk_cons, chk_nil]
        refine onCallD_pure (by simp -implicitDefEqProofs only [go_sem, ↓reduceIte, List.map] <;> rfl) (few_ok (sh l[i] 36) lG (by decide)) (.inr rfl) ?_
        simp -implicitDefEqProofs only [go_sem, Bool.and_self, beq_self_eq_true, Nat.reduceLT, Nat.reduceEqDiff, Nat.reduceAdd, Nat.reduceMul, Nat.reduceLeDiff, reduceCtorEq, ↓reduceIte, List.map, chk_cons, chk_nil, h1, t1, d1, d4, b1, e1, e2, e3, e4, e5, e6, Nat.le_refl]
        refine Rd_endM (f := fun a => if a < 14 then a else if a = 14 then is else a + m + 2) (by
            intro a b
            (repeat' split) <;> omega) ([⟨[10, 14], [10], false⟩, ⟨[], [], false⟩, ⟨[14, 66], [14], false⟩, ⟨[], [66], false⟩, ⟨[], [], false⟩, ⟨[], [], false⟩, ⟨[], [], false⟩, ⟨[61], [], false⟩, ⟨[], [61], false⟩, ⟨[], [], false⟩, ⟨[], [], false⟩, ⟨[], [], false⟩, ⟨[56], [], false⟩, ⟨[], [56], false⟩, ⟨[], [], false⟩, ⟨[], [], false⟩, ⟨[], [], false⟩, ⟨[], [], false⟩, ⟨[], [], false⟩, ⟨[], [], false⟩, ⟨[], [], false⟩, ⟨[43], [], false⟩, ⟨[43], [], false⟩, ⟨[], [], false⟩, ⟨[], [], false⟩, ⟨[], [], false⟩, ⟨[], [43], false⟩, ⟨[10], [], false⟩, ⟨[], [], false⟩]).reverse (by rfl) (by
            have k2 : True := trivial
            have k3 : 66 + m + 2 = 14 + m + 8 + 5 + 12 + 4 + 25 := by omega
            have k4 : 61 + m + 2 = 14 + m + 8 + 5 + 12 + 4 + 20 := by omega
            have k5 : 56 + m + 2 = 14 + m + 8 + 5 + 12 + 4 + 15 := by omega
            have k6 : 43 + m + 2 = 14 + m + 8 + 5 + 12 + 4 + 2 := by omega
            simp only [List.reverse_cons, List.reverse_nil, List.nil_append, List.cons_append, List.map_cons, List.map_nil, mapR, Nat.reduceLT, Nat.reduceEqDiff, ↓reduceIte, k3, k4, k5, k6]) ?_
        simp -implicitDefEqProofs only [go_sem, Nat.reduceEqDiff, Nat.reduceAdd, ↓reduceIte, w1]
        exact ⟨⟨(i + 1, z :: r ++ [stmN l[i]], bs, is, vs + 1, ib, vb, m + 100), ⟨by first | omega | (simp only; omega), by first | omega | (simp only; omega), by simpa using q3, q4, by first | omega | (simp only; omega), q6, by first | omega | (simp only; omega), q8, by simp; omega, by first | omega | (simp only; omega)⟩⟩, ⟨wk_upd (by first | rfl | simp [upd_at, forget_at, accV_app, accV_cons, accV_nil, d1, d2, d3, d4, d5, d6, stmN, f1, f2, f3, f4, f5, f6, f7]) ((by repeat first | exact wk_base _ _ | refine wk_skip rfl ?_ | refine wk_forget rfl ?_)), wh_upd (by first | rfl | simp [upd_at, accV_cons, stmN]) (wh_upd (by first | rfl | simp [upd_at, accO_cons, d1, stmN]) (wh_upd (by first | rfl | simp [upd_at, d2, d3, f1, f2, f3, f4, f5, f6]) ((by repeat first | exact wh_base _ _ _ | refine wh_skip (by first | (left; first | omega | exact accI_le _ (by omega) (by omega)) | (right; simp)) ?_ | refine wh_cut2 (by omega) (by intro k hk; first | exact absurd hk List.not_mem_nil | (simp only [List.mem_cons, List.not_mem_nil, or_false] at hk ⊢; omega)) ?_)))), by simp only; omega⟩, by simp only; omega⟩
  · have ed : (l.take 8).drop i = [] := List.drop_eq_nil_of_le (by simp; omega)
    rw [ed] at q3
    simp only [madeG] at q3
    by_cases hk1 : i < l.length
    · have c1 := dec_lt hk1
      have c2 : decide ((i : Int) < 8) = false := by simp; omega
      simp -implicitDefEqProofs only [go_sem, Nat.reduceEqDiff, Nat.reduceAdd, Nat.reduceLeDiff, reduceCtorEq, ↓reduceIte, c1, c2, d7, d8]
      have p1 : ¬ is = 0 := by omega
      have p2 : ¬ ib = 0 := by omega
      obtain ⟨l1, l2, l3, l4, l5, l6, l7, l8⟩ : ¬ (1 : Nat) = is ∧ ¬ (2 : Nat) = is ∧ ¬ (3 : Nat) = is ∧ ¬ (8 : Nat) = is ∧ ¬ (1 : Nat) = ib ∧ ¬ (2 : Nat) = ib ∧ ¬ (3 : Nat) = ib ∧ ¬ (8 : Nat) = ib := by omega
      exact end_pure (b := false) (by simp -implicitDefEqProofs only [go_sem, Nat.reduceEqDiff, Nat.reduceAdd, Nat.reduceLeDiff, ↓reduceIte, Try.f11] <;> rfl) (toR_ag (toDs_cons (row_toD1 (by simp only [upd_at, cutH_nil, cutH_cons, Nat.reduceLeDiff, Nat.reduceEqDiff, ↓reduceIte, l1, l5]; rfl)) (toDs_cons (row_toD1 (by simp only [upd_at, cutH_nil, cutH_cons, Nat.reduceLeDiff, Nat.reduceEqDiff, ↓reduceIte, l2, l6]; rfl)) (toDs_cons (row_toD1 (by simp only [upd_at, cutH_nil, cutH_cons, Nat.reduceLeDiff, Nat.reduceEqDiff, ↓reduceIte, l3, l7]; rfl)) (toDs_cons (row_toD1 (by simp only [upd_at, cutH_nil, cutH_cons, Nat.reduceLeDiff, Nat.reduceEqDiff, ↓reduceIte, l4, l8]; rfl)) (toDs_cons (acc_toD1 (sz := 6) (by simp only [upd_at, ↓reduceIte, d1, p1])) (toDs_cons (acc_toD1 (sz := 3) (by simp only [upd_at, ↓reduceIte, d2, d3, p2])) rfl))))))) (by rw [madeP, ← q3]; rfl) (fun _ => rfl)
    · have c1 := dec_nlt (Nat.le_of_not_lt hk1)
      simp -implicitDefEqProofs only [go_sem, Nat.reduceEqDiff, Nat.reduceAdd, Nat.reduceLeDiff, reduceCtorEq, ↓reduceIte, c1, d7, d8]
      have p1 : ¬ is = 0 := by omega
      have p2 : ¬ ib = 0 := by omega
      obtain ⟨l1, l2, l3, l4, l5, l6, l7, l8⟩ : ¬ (1 : Nat) = is ∧ ¬ (2 : Nat) = is ∧ ¬ (3 : Nat) = is ∧ ¬ (8 : Nat) = is ∧ ¬ (1 : Nat) = ib ∧ ¬ (2 : Nat) = ib ∧ ¬ (3 : Nat) = ib ∧ ¬ (8 : Nat) = ib := by omega
      exact end_pure (b := false) (by simp -implicitDefEqProofs only [go_sem, Nat.reduceEqDiff, Nat.reduceAdd, Nat.reduceLeDiff, ↓reduceIte, Try.f11] <;> rfl) (toR_ag (toDs_cons (row_toD1 (by simp only [upd_at, cutH_nil, cutH_cons, Nat.reduceLeDiff, Nat.reduceEqDiff, ↓reduceIte, l1, l5]; rfl)) (toDs_cons (row_toD1 (by simp only [upd_at, cutH_nil, cutH_cons, Nat.reduceLeDiff, Nat.reduceEqDiff, ↓reduceIte, l2, l6]; rfl)) (toDs_cons (row_toD1 (by simp only [upd_at, cutH_nil, cutH_cons, Nat.reduceLeDiff, Nat.reduceEqDiff, ↓reduceIte, l3, l7]; rfl)) (toDs_cons (row_toD1 (by simp only [upd_at, cutH_nil, cutH_cons, Nat.reduceLeDiff, Nat.reduceEqDiff, ↓reduceIte, l4, l8]; rfl)) (toDs_cons (acc_toD1 (sz := 6) (by simp only [upd_at, ↓reduceIte, d1, p1])) (toDs_cons (acc_toD1 (sz := 3) (by simp only [upd_at, ↓reduceIte, d2, d3, p2])) rfl))))))) (by rw [madeP, ← q3]; rfl) (fun _ => rfl)
end Go.Proofs.Ytkkhgdmmbhpckaa.Ab
