/-
  rows.Of: the set of some tuples.
-/
import Derived.Test.YtedgdpncienjiaaTca
import Derived.Test.YtedgdpncienjiaaCpt1
import Derived.Test.YtedgdpncienjiaaAbS
import Derived.Ground.SlsfProg
namespace Go.Proofs
open Go.Shelf Go.RowKit Go.Sort
def Try.sortFuncTuple_ren : Go.Shelf.Ren := ⟨fun | 6 => 23 | 15 => 32 | 14 => 31 | 28 => 45 | 29 => 46 | 20 => 37 | 21 => 38 | 22 => 39 | 23 => 40 | 24 => 41 | 25 => 42 | 26 => 43 | 27 => 44 | 46 => 57 | 47 => 58 | 48 => 59 | 49 => 60 | 50 => 61 | 57 => 67 | n => n, fun | 22 => 23 | 24 => 30 | 25 => 66 | 3 => 3 | 39 => 55 | 0 => 0 | 53 => 86 | 55 => 88 | 4 => 4 | 46 => 79 | 45 => 78 | 50 => 83 | 5 => 5 | 9 => 9 | 66 => 96 | 70 => 100 | 76 => 105 | 77 => 106 | n => n, fun | n => n⟩
theorem Try.sortFuncTuple : Go.Proofs.SlLaysF0.n6 Try.prog Try.sortFuncTuple_ren := {
  mixed := by kernel_rfl
  f6 := ⟨Try.f23.name, by decide, Try.func23.trans (congrArg some (by kernel_rfl))⟩
  f14 := ⟨Try.f31.name, by decide, Try.func31.trans (congrArg some (by kernel_rfl))⟩
  f15 := Try.func32.trans (congrArg some (by kernel_rfl))
  f20 := ⟨Try.f37.name, by decide, Try.func37.trans (congrArg some (by kernel_rfl))⟩
  f21 := ⟨Try.f38.name, by decide, Try.func38.trans (congrArg some (by kernel_rfl))⟩
  f22 := ⟨Try.f39.name, by decide, Try.func39.trans (congrArg some (by kernel_rfl))⟩
  f23 := ⟨Try.f40.name, by decide, Try.func40.trans (congrArg some (by kernel_rfl))⟩
  f24 := ⟨Try.f41.name, by decide, Try.func41.trans (congrArg some (by kernel_rfl))⟩
  f25 := ⟨Try.f42.name, by decide, Try.func42.trans (congrArg some (by kernel_rfl))⟩
  f26 := ⟨Try.f43.name, by decide, Try.func43.trans (congrArg some (by kernel_rfl))⟩
  f27 := ⟨Try.f44.name, by decide, Try.func44.trans (congrArg some (by kernel_rfl))⟩
  f28 := Try.func45.trans (congrArg some (by kernel_rfl))
  f29 := Try.func46.trans (congrArg some (by kernel_rfl))
  f46 := ⟨Try.f57.name, by decide, Try.func57.trans (congrArg some (by kernel_rfl))⟩
  f47 := Try.func58.trans (congrArg some (by kernel_rfl))
  f48 := Try.func59.trans (congrArg some (by kernel_rfl))
  f49 := ⟨Try.f60.name, by decide, Try.func60.trans (congrArg some (by kernel_rfl))⟩
  f50 := ⟨Try.f61.name, by decide, Try.func61.trans (congrArg some (by kernel_rfl))⟩
  f57 := ⟨Try.f67.name, by decide, Try.func67.trans (congrArg some (by kernel_rfl))⟩
  t0 := Try.underlying0
  a0 := Try.isAgg0
  z0 := Try.sizeOf0
  v0 := Try.zeroValue0
  t3 := Try.underlying3
  a3 := Try.isAgg3
  z3 := Try.sizeOf3
  v3 := Try.zeroValue3
  t4 := Try.underlying4
  a4 := Try.isAgg4
  z4 := Try.sizeOf4
  v4 := Try.zeroValue4
  t5 := Try.underlying5
  a5 := Try.isAgg5
  z5 := Try.sizeOf5
  v5 := Try.zeroValue5
  t9 := Try.underlying9
  a9 := Try.isAgg9
  z9 := Try.sizeOf9
  v9 := Try.zeroValue9
  t22 := Try.underlying23
  a22 := Try.isAgg23
  z22 := Try.sizeOf23
  v22 := Try.zeroValue23
  t25 := Try.underlying66
  a25 := Try.isAgg66
  z25 := Try.sizeOf66
  v25 := Try.zeroValue66
  t39 := Try.underlying55
  a39 := Try.isAgg55
  z39 := Try.sizeOf55
  v39 := Try.zeroValue55
  t45 := Try.underlying78
  a45 := Try.isAgg78
  z45 := Try.sizeOf78
  v45 := Try.zeroValue78
  t46 := Try.underlying79
  a46 := Try.isAgg79
  z46 := Try.sizeOf79
  v46 := Try.zeroValue79
  t50 := Try.underlying83
  a50 := Try.isAgg83
  z50 := Try.sizeOf83
  v50 := Try.zeroValue83
  t53 := Try.underlying86
  a53 := Try.isAgg86
  z53 := Try.sizeOf86
  v53 := Try.zeroValue86
  t55 := Try.underlying88
  a55 := Try.isAgg88
  z55 := Try.sizeOf88
  v55 := Try.zeroValue88
  t66 := Try.underlying96
  a66 := Try.isAgg96
  z66 := Try.sizeOf96
  v66 := Try.zeroValue96
  t70 := Try.underlying100
  a70 := Try.isAgg100
  z70 := Try.sizeOf100
  v70 := Try.zeroValue100
  t76 := Try.underlying105
  a76 := Try.isAgg105
  z76 := Try.sizeOf105
  v76 := Try.zeroValue105
  t77 := Try.underlying106
  a77 := Try.isAgg106
  z77 := Try.sizeOf106
  v77 := Try.zeroValue106 }
end Go.Proofs
namespace Go.Proofs.Ytedgdpncienjiaa.Ab
open Go.Shelf Go.RowKit Go.Sort

/-- A tuple's texts. -/
def tk (t : GTuple) : List ByteArray := [t.obj.type_, t.obj.id_, t.rel, t.sub_.type_, t.sub_.id_, t.sub_.rel]
theorem tk_inj (x y : GTuple) (h : tk x = tk y) : x = y := by
  obtain ⟨⟨a, b⟩, c, ⟨d, e, f⟩⟩ := x
  obtain ⟨⟨a', b'⟩, c', ⟨d', e', f'⟩⟩ := y
  simp only [tk, List.cons.injEq, and_true] at h
  obtain ⟨rfl, rfl, rfl, rfl, rfl, rfl⟩ := h
  rfl
/-- The order of tuples. -/
def tO : Lin GTuple := linL tk (fun _ _ => rfl) tk_inj
def cfT (x y : GTuple) : Int := cfL (tk x) (tk y)
theorem or_loop {n : Nat} {vs : List Int} (hx : vs.length < 4611686018427387904) : ∀ (c j : Nat), j ≤ vs.length → vs.length - j < c → cmp_Or_L1 n vs c (j : Int) = some (if orI (vs.drop j) = 0 then .inl () else .inr (orI (vs.drop j)))
  | 0, _, _, h => by omega
  | c + 1, j, hj, hc => by
    have ih := or_loop (n := n) hx c
    unfold cmp_Or_L1
    by_cases hlt : j < vs.length
    · rw [dlt hlt, if_pos rfl, idxS hlt, Option.bind_some, List.drop_eq_getElem_cons hlt, wr1 (by omega)]
      unfold orI
      by_cases h : vs[j] = 0
      · rw [h, if_pos rfl, ih _ (by omega) (by omega)]
        simp
      · rw [if_neg h]
        simp [h]
    · rw [dnlt (by omega), if_neg (by decide), List.drop_eq_nil_of_le (by omega)]
      rfl
theorem or_some {n : Nat} {vs : List Int} (hx : vs.length < 4611686018427387904) (hn : vs.length < n) : cmp_Or n vs = some (orI vs) := by
  unfold cmp_Or
  have h : cmp_Or_L1 n vs n 0 = _ := or_loop hx n 0 (by omega) (by omega)
  rw [h, List.drop_zero, Option.bind_some]
  by_cases e : orI vs = 0
  · rw [if_pos e, e]
  · rw [if_neg e]
theorem scmp_some (n : Nat) (a b : ByteArray) : strings_Compare n a b = some (cmS a b) := rfl
theorem compare_some {n : Nat} (hn : 10 < n) (x y : GTuple) : tupl_Compare n x y = some (cfT x y) := by
  unfold tupl_Compare
  simp only [scmp_some, Option.bind_some]
  rw [or_some (by simp) (by simp; omega)]
  rfl
theorem cmp_pure (x y : GTuple) : PureOK Try.prog 24 [.ag (eGTuple x), .ag (eGTuple y)] (.v (.int .i64 (cfT x y))) true := tupl_Compare_ok (compare_some (n := 100) (by decide) x y)
theorem cloneT0 : PureOK Try.prog 22 [.sl []] (.sl []) true :=
  clone_nil tab_ok fol Try.func22 (T := 23) (B := 4) rfl (by kernel_rfl) (by kernel_rfl) (by decide) rfl (by simp only [go_sem]) (by simp only [go_sem]) (by simp only [go_sem]; decide) (by simp only [go_sem]; decide)
theorem cloneT_in (xs : List GTuple) (h0 : 0 < xs.length) (hn : xs.length ≤ 4294967296) {b : Bool} {hp : Hp} {nx : Nat} :
    InlOK Try.prog 22 [.d (.sl (xs.map eGTuple)) b] hp nx fun v hp2 nx2 => v = .so (nx + 3) 1 0 xs.length ∧ hp2 = upd (nx + 3) (some (.rw (xs.map eGTuple) 6 1 false false)) hp ∧ nx2 = nx + 7 := by
  have h := clone_map (e := eGTuple) (k := 6) (b := b) (hp := hp) (nx := nx) tab_ok fol Try.func22 (T := 23) (B := 4) rfl (by kernel_rfl) (by kernel_rfl) (by decide) rfl (by simp only [go_sem]) (by simp only [go_sem]) (by simp only [go_sem]) (by decide) (by simp only [go_sem]; decide) (fun _ => rfl) xs h0 hn
  rw [plainR_map (f := eGTuple) (fun _ => rfl), Bool.not_true, Bool.and_false] at h
  exact h
theorem enSortF : Enters Try.prog 23 := ⟨_, Try.func23, by kernel_rfl, by kernel_rfl⟩
theorem sortT_in (xs : List GTuple) (h0 : 0 < xs.length) (hn : xs.length ≤ 4294967296) {id ver : Nat} {br : Bool} {hp : Hp} {nx : Nat} (hi : hp id = some (.rw (xs.map eGTuple) 6 ver br false)) :
    InlOK Try.prog 23 [.so id ver 0 xs.length, .fn 24 []] hp nx fun v hp2 nx2 => v = .tu [] ∧ nx2 = nx ∧ ∃ ys : List GTuple, ys.length = xs.length ∧ Lib.compact ys = tO.ofL xs ∧ hp2 = upd id (some (.rw (ys.map eGTuple) 6 ver br false)) hp := by
  have h := sort_inl (encD := eGTuple) (k := 6) (br := br) (nx := nx) Try.sortFuncTuple (fun w => by kernel_rfl) (fun w => by kernel_rfl) (fun _ => rfl) cfT tO.swo rfl enSortF (enters_of Try.func24 (by kernel_rfl) rfl) cmp_pure xs (by rintro rfl; simp at h0) (by omega) hi
  refine h.mono ?_
  rintro v hp2 nx2 ⟨rfl, rfl, ys, h1, h2, h3⟩
  exact ⟨rfl, rfl, ys, h1.length_eq, tO.compact_sorted (fun x => h1.mem_iff) h2, h3⟩
theorem compT_in (xs : List GTuple) (h0 : 0 < xs.length) (hn : xs.length ≤ 4294967296) {id ver : Nat} {br : Bool} {hp : Hp} {nx : Nat} (hi : hp id = some (.rw (xs.map eGTuple) 6 ver br false)) :
    InlOK Try.prog 25 [.so id ver 0 xs.length] hp nx fun v hp2 _ => v = .so id (ver + 1) 0 (Lib.compact xs).length ∧ hp2 = upd id (some (.rw ((Lib.compact xs).map eGTuple) 6 (ver + 1) br false)) hp :=
  inl_upd hi (inl_cut (tup_cpt xs h0 hn nx))
theorem sort0_in {b : Bool} {hp : Hp} {nx : Nat} : InlOK Try.prog 23 [.d (.sl []) b, .fn 24 []] hp nx fun v hp2 nx2 => v = .tu [] ∧ hp2 = hp ∧ nx2 = nx := by
  refine ⟨enSortF, fun g c args hhp hkn hr hsz hargs => ?_⟩
  obtain ⟨u0, a0, b0⟩ := hargs 0 _ rfl
  obtain ⟨u1, a1, b1⟩ := hargs 1 _ rfl
  have e0 : ∃ a k, u0 = .slice a 0 k := by
    cases (show RA g c (.d (.sl []) b) u0 from b0) with
    | d _ _ _ hr => cases hr with
      | nl a k => exact ⟨a, k, rfl⟩
      | sl _ b o k => exact ⟨_, _, rfl⟩
  obtain ⟨a, k, rfl⟩ := e0
  have hu1 : u1 = .func (.func 24) #[] #[] := by
    cases (show RA g c (.fn 24 []) u1 from b1) with
    | fn _ _ us n hn' _ =>
      simp only [List.length_nil] at hn'
      subst hn'
      rfl
  subst hu1
  have hargs2 : args = #[.slice a 0 k, .func (.func 24) #[] #[]] := by
    have hsz2 : args.size = 2 := by simpa using hsz
    apply Array.ext
    · simpa using hsz2
    · intro j h1 h2
      have hj : j = 0 ∨ j = 1 := by omega
      rcases hj with rfl | rfl
      · simpa [h1] using a0
      · simpa [h1] using a1
  subst hargs2
  have hcon := AnyF.slices_SortFunc_none Try.sortFuncTuple a k (.func (.func 24) #[] #[]) c.w
  change Calls Try.prog 23 _ _ _ at hcon
  refine hcon.mono ?_
  rintro e w' ⟨rfl, rfl⟩
  exact ⟨.tuple #[], .tu [], c, nx, rfl, ⟨rfl, hhp, rfl⟩, rfl, Ext.refl c, hr, ⟨#[], rfl, rfl, fun j x e => by simp at e⟩, Nat.le_refl _, fun i h => .inl h⟩
theorem compT0 : PureOK Try.prog 25 [.sl []] (.sl []) false := by
  refine pure_run (tab := tab) tab_ok fol Try.func25 rfl (by kernel_rfl) (by kernel_rfl) (by simp [Try.f25]) ?_
  simp -implicitDefEqProofs only [go_sem, Int.reduceLT, decide_true, Nat.reduceAdd, reduceCtorEq, ↓reduceIte]
  exact end_pure (v := .d (.sl []) true) (b := true) (is := []) (by simp -implicitDefEqProofs only [go_sem, ↓reduceIte, Try.f25] <;> rfl) rfl rfl (fun h => by cases h)
/-- The set of some tuples. -/
theorem rowsOf_pure (xs : List GTuple) (hn : xs.length ≤ 4294967296) : PureOK Try.prog 16 [.sl (xs.map eGTuple)] (.sl ((tO.ofL xs).map eGTuple)) true := by
  refine pure_run (tab := tab) tab_ok fol Try.func16 rfl (by kernel_rfl) (by kernel_rfl) (by simp [Try.f16]) ?_
  simp -implicitDefEqProofs only [go_sem, Nat.reduceAdd, reduceCtorEq, ↓reduceIte]
  by_cases h0 : 0 < xs.length
  · refine onCall_inl ((cloneT_in xs h0 hn).mono ?_)
    rintro v hp2 nx2 ⟨rfl, rfl, rfl⟩
    simp -implicitDefEqProofs only [go_sem, Nat.reduceAdd, ↓reduceIte]
    refine onCall_inl ((sortT_in xs h0 hn (by simp -implicitDefEqProofs only [go_sem, ↓reduceIte] <;> rfl)).mono ?_)
    rintro v hp2 nx2 ⟨rfl, rfl, ys, h1, h2, rfl⟩
    simp -implicitDefEqProofs only [go_sem, Nat.reduceEqDiff, Nat.reduceAdd, ↓reduceIte]
    rw [← h1]
    have h0' : 0 < ys.length := by omega
    refine onCall_inl ((compT_in ys h0' (by omega) (by simp -implicitDefEqProofs only [go_sem, ↓reduceIte] <;> rfl)).mono ?_)
    rintro v hp2 nx2 ⟨rfl, rfl⟩
    rw [h2]
    simp -implicitDefEqProofs only [go_sem, Nat.reduceAdd, ↓reduceIte]
    exact end_pure (v := .so 7 2 0 (tO.ofL xs).length) (b := false) (is := [7]) (by simp -implicitDefEqProofs only [go_sem, ↓reduceIte, Try.f16] <;> rfl) (by simp -implicitDefEqProofs only [go_sem, ↓reduceIte] <;> rfl) rfl (fun _ => rfl)
  · have e : xs = [] := List.eq_nil_of_length_eq_zero (by omega)
    subst e
    refine onCall_pure (by simp -implicitDefEqProofs only [go_sem] <;> rfl) cloneT0 (.inr rfl) ?_
    simp -implicitDefEqProofs only [go_sem, Nat.reduceAdd, ↓reduceIte]
    refine onCall_inl (sort0_in.mono ?_)
    rintro v hp2 nx2 ⟨rfl, rfl, rfl⟩
    simp -implicitDefEqProofs only [go_sem, Nat.reduceEqDiff, Nat.reduceAdd, ↓reduceIte]
    refine onCall_pure (by simp -implicitDefEqProofs only [go_sem] <;> rfl) compT0 (.inl rfl) ?_
    simp -implicitDefEqProofs only [go_sem, Nat.reduceAdd, ↓reduceIte]
    exact end_pure (v := .d (.sl []) false) (b := false) (is := []) (by simp -implicitDefEqProofs only [go_sem, ↓reduceIte, Try.f16] <;> rfl) rfl rfl (fun _ => rfl)
def rows_Of (_n : Nat) (xs : List GTuple) : Option (List GTuple) := if xs.length ≤ 4294967296 then some (tO.ofL xs) else none
theorem rows_Of_ok {n : Nat} {xs r : List GTuple} (h : rows_Of n xs = some r) : PureOK Try.prog 16 [D.sl (List.map eGTuple xs)] (D.sl (List.map eGTuple r)) true := by
  unfold rows_Of at h
  split at h
  · rename_i hn
    obtain rfl := Option.some.inj h
    exact rowsOf_pure xs hn
  · cases h
end Go.Proofs.Ytedgdpncienjiaa.Ab
