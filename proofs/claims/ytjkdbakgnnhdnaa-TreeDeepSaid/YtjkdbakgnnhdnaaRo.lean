/-
 rows.Of: the set of some tuples.
-/
import Derived.Test.YtjkdbakgnnhdnaaTca
import Derived.Test.YtjkdbakgnnhdnaaCpt1
import Derived.Test.YtjkdbakgnnhdnaaAbS
import Derived.Ground.SlsfProg
namespace Go.Proofs
open Go.Shelf Go.RowKit Go.Sort
def Try.sortFuncTuple_ren : Go.Shelf.Ren := ⟨fun | 6 => 56 | 15 => 65 | 14 => 64 | 28 => 79 | 29 => 80 | 20 => 71 | 21 => 72 | 22 => 73 | 23 => 74 | 24 => 75 | 25 => 76 | 26 => 77 | 27 => 78 | 46 => 83 | 47 => 84 | 48 => 85 | 49 => 86 | 50 => 87 | 57 => 89 | n => n, fun | 22 => 26 | 24 => 32 | 25 => 135 | 3 => 3 | 39 => 141 | 0 => 0 | 53 => 157 | 55 => 159 | 4 => 4 | 46 => 150 | 45 => 149 | 50 => 154 | 5 => 5 | 9 => 9 | 66 => 162 | 70 => 166 | 76 => 168 | 77 => 169 | n => n, fun | n => n⟩
theorem Try.sortFuncTuple : Go.Proofs.SlLaysF0.n6 Try.prog Try.sortFuncTuple_ren := {
 mixed := by kernel_rfl
 f6 := ⟨Try.f56.name, by decide, Try.func56.trans (congrArg some (by kernel_rfl))⟩
 f14 := ⟨Try.f64.name, by decide, Try.func64.trans (congrArg some (by kernel_rfl))⟩
 f15 := Try.func65.trans (congrArg some (by kernel_rfl))
 f20 := ⟨Try.f71.name, by decide, Try.func71.trans (congrArg some (by kernel_rfl))⟩
 f21 := ⟨Try.f72.name, by decide, Try.func72.trans (congrArg some (by kernel_rfl))⟩
 f22 := ⟨Try.f73.name, by decide, Try.func73.trans (congrArg some (by kernel_rfl))⟩
 f23 := ⟨Try.f74.name, by decide, Try.func74.trans (congrArg some (by kernel_rfl))⟩
 f24 := ⟨Try.f75.name, by decide, Try.func75.trans (congrArg some (by kernel_rfl))⟩
 f25 := ⟨Try.f76.name, by decide, Try.func76.trans (congrArg some (by kernel_rfl))⟩
 f26 := ⟨Try.f77.name, by decide, Try.func77.trans (congrArg some (by kernel_rfl))⟩
 f27 := ⟨Try.f78.name, by decide, Try.func78.trans (congrArg some (by kernel_rfl))⟩
 f28 := Try.func79.trans (congrArg some (by kernel_rfl))
 f29 := Try.func80.trans (congrArg some (by kernel_rfl))
 f46 := ⟨Try.f83.name, by decide, Try.func83.trans (congrArg some (by kernel_rfl))⟩
 f47 := Try.func84.trans (congrArg some (by kernel_rfl))
 f48 := Try.func85.trans (congrArg some (by kernel_rfl))
 f49 := ⟨Try.f86.name, by decide, Try.func86.trans (congrArg some (by kernel_rfl))⟩
 f50 := ⟨Try.f87.name, by decide, Try.func87.trans (congrArg some (by kernel_rfl))⟩
 f57 := ⟨Try.f89.name, by decide, Try.func89.trans (congrArg some (by kernel_rfl))⟩
 t0 := Try.underlying0
 a0 := Try.isAgg0
 z0 := Try.sizeOf0
 v0 := Try.zeroValue0
 t3 := Try.underlying3
 a3 := Try.isAgg3
 z3 := Try.sizeOf3
 v3 := Try.zeroValue3
 t4 := Try.underlying4
 a4 := Try.isAgg4
 z4 := Try.sizeOf4
 v4 := Try.zeroValue4
 t5 := Try.underlying5
 a5 := Try.isAgg5
 z5 := Try.sizeOf5
 v5 := Try.zeroValue5
 t9 := Try.underlying9
 a9 := Try.isAgg9
 z9 := Try.sizeOf9
 v9 := Try.zeroValue9
 t22 := Try.underlying26
 a22 := Try.isAgg26
 z22 := Try.sizeOf26
 v22 := Try.zeroValue26
 t25 := Try.underlying135
 a25 := Try.isAgg135
 z25 := Try.sizeOf135
 v25 := Try.zeroValue135
 t39 := Try.underlying141
 a39 := Try.isAgg141
 z39 := Try.sizeOf141
 v39 := Try.zeroValue141
 t45 := Try.underlying149
 a45 := Try.isAgg149
 z45 := Try.sizeOf149
 v45 := Try.zeroValue149
 t46 := Try.underlying150
 a46 := Try.isAgg150
 z46 := Try.sizeOf150
 v46 := Try.zeroValue150
 t50 := Try.underlying154
 a50 := Try.isAgg154
 z50 := Try.sizeOf154
 v50 := Try.zeroValue154
 t53 := Try.underlying157
 a53 := Try.isAgg157
 z53 := Try.sizeOf157
 v53 := Try.zeroValue157
 t55 := Try.underlying159
 a55 := Try.isAgg159
 z55 := Try.sizeOf159
 v55 := Try.zeroValue159
 t66 := Try.underlying162
 a66 := Try.isAgg162
 z66 := Try.sizeOf162
 v66 := Try.zeroValue162
 t70 := Try.underlying166
 a70 := Try.isAgg166
 z70 := Try.sizeOf166
 v70 := Try.zeroValue166
 t76 := Try.underlying168
 a76 := Try.isAgg168
 z76 := Try.sizeOf168
 v76 := Try.zeroValue168
 t77 := Try.underlying169
 a77 := Try.isAgg169
 z77 := Try.sizeOf169
 v77 := Try.zeroValue169 }
end Go.Proofs
namespace Go.Proofs.Ytjkdbakgnnhdnaa.Ab
open Go.Shelf Go.RowKit Go.Sort
def tk (t : GTuple) : List ByteArray := [t.obj.type_, t.obj.id_, t.rel, t.sub_.type_, t.sub_.id_, t.sub_.rel]
theorem tk_inj (x y : GTuple) (h : tk x = tk y) : x = y := by
 obtain ⟨⟨a, b⟩, c, ⟨d, e, f⟩⟩ := x
 obtain ⟨⟨a', b'⟩, c', ⟨d', e', f'⟩⟩ := y
 simp only [tk, List.cons.injEq, and_true] at h
 obtain ⟨rfl, rfl, rfl, rfl, rfl, rfl⟩ := h
 rfl
def tO : Lin GTuple := linL tk (fun _ _ => rfl) tk_inj
def cfT (x y : GTuple) : Int := cfL (tk x) (tk y)
theorem or_loop {n : Nat} {vs : List Int} (hx : vs.length < 4611686018427387904) : ∀ (c j : Nat), j ≤ vs.length → vs.length - j < c → cmp_Or_L1 n vs c (j : Int) = some (if orI (vs.drop j) = 0 then .inl () else .inr (orI (vs.drop j)))
 | 0, _, _, h => by omega
 | c + 1, j, hj, hc => by
  have ih := or_loop (n := n) hx c
  unfold cmp_Or_L1
  by_cases hlt : j < vs.length
  ·rw [dlt hlt, if_pos rfl, idxS hlt, Zo, List.drop_eq_getElem_cons hlt, wr1 (by omega)]
   unfold orI
   by_cases h : vs[j] = 0
   ·rw [h, if_pos rfl, ih _ (by omega) (by omega)]
    simp
   ·rw [if_neg h]
    simp [h]
  ·rw [dnlt (by omega), if_neg (by decide), List.drop_eq_nil_of_le (by omega)]
   rfl
theorem or_some {n : Nat} {vs : List Int} (hx : vs.length < 4611686018427387904) (hn : vs.length < n) : cmp_Or n vs = some (orI vs) := by
 unfold cmp_Or
 have h : cmp_Or_L1 n vs n 0 = _ := or_loop hx n 0 (by omega) (by omega)
 rw [h, List.drop_zero, Zo]
 by_cases e : orI vs = 0
 ·rw [if_pos e, e]
 ·rw [if_neg e]
theorem scmp_some (n : Nat) (a b : ByteArray) : strings_Compare n a b = some (cmS a b) := rfl
theorem compare_some {n : Nat} (hn : 10 < n) (x y : GTuple) : tupl_Compare n x y = some (cfT x y) := by
 unfold tupl_Compare
 simp only [scmp_some, Zo]
 rw [or_some (by simp) (by simp; omega)]
 rfl
theorem cmp_pure (x y : GTuple) : PureOK Try.prog 57 [.ag (eGTuple x), .ag (eGTuple y)] (.v (.int .i64 (cfT x y))) true := tupl_Compare_ok (compare_some (n := 100) (by decide) x y)
theorem cloneT0 : PureOK Try.prog 55 [.sl []] (.sl []) true :=
 clone_nil tab_ok fol Try.func55 (T := 26) (B := 4) rfl (by kernel_rfl) (by kernel_rfl) (by decide) rfl (by simp only [go_sem]) (by simp only [go_sem]) (by simp only [go_sem]; decide) (by simp only [go_sem]; decide)
theorem cloneT_in (xs : List GTuple) (h0 : 0 < xs.length) (hn : xs.length ≤ 4294967296) {b : Bool} {hp : Hp} {nx : Nat} :
  InlOK Try.prog 55 [.d (.sl (xs.map eGTuple)) b] hp nx fun v hp2 nx2 => v = .so (nx + 3) 1 0 xs.length ∧ hp2 = upd (nx + 3) (some (.rw (xs.map eGTuple) 6 1 false false)) hp ∧ nx2 = nx + 7 := by
 have h := clone_map (e := eGTuple) (k := 6) (b := b) (hp := hp) (nx := nx) tab_ok fol Try.func55 (T := 26) (B := 4) rfl (by kernel_rfl) (by kernel_rfl) (by decide) rfl (by simp only [go_sem]) (by simp only [go_sem]) (by simp only [go_sem]) (by decide) (by simp only [go_sem]; decide) (fun _ => rfl) xs h0 hn
 rw [plainR_map (f := eGTuple) (fun _ => rfl), Bool.not_true, Bool.and_false] at h
 exact h
theorem enSortF : Enters Try.prog 56 := ⟨_, Try.func56, by kernel_rfl, by kernel_rfl⟩
theorem sortT_in (xs : List GTuple) (h0 : 0 < xs.length) (hn : xs.length ≤ 4294967296) {id ver : Nat} {br : Bool} {hp : Hp} {nx : Nat} (hi : hp id = some (.rw (xs.map eGTuple) 6 ver br false)) :
  InlOK Try.prog 56 [.so id ver 0 xs.length, .fn 57 []] hp nx fun v hp2 nx2 => v = .tu [] ∧ nx2 = nx ∧ ∃ ys : List GTuple, ys.length = xs.length ∧ Lib.compact ys = tO.ofL xs ∧ hp2 = upd id (some (.rw (ys.map eGTuple) 6 ver br false)) hp := by
 have h := sort_inl (encD := eGTuple) (k := 6) (br := br) (nx := nx) Try.sortFuncTuple (fun w => by kernel_rfl) (fun w => by kernel_rfl) (fun _ => rfl) cfT tO.swo rfl enSortF (enters_of Try.func57 (by kernel_rfl) rfl) cmp_pure xs (by rintro rfl; simp at h0) (by omega) hi
 refine h.mono ?_
 rintro v hp2 nx2 ⟨rfl, rfl, ys, h1, h2, h3⟩
 exact ⟨rfl, rfl, ys, h1.length_eq, tO.compact_sorted (fun x => h1.mem_iff) h2, h3⟩
theorem compT_in (xs : List GTuple) (h0 : 0 < xs.length) (hn : xs.length ≤ 4294967296) {id ver : Nat} {br : Bool} {hp : Hp} {nx : Nat} (hi : hp id = some (.rw (xs.map eGTuple) 6 ver br false)) :
  InlOK Try.prog 58 [.so id ver 0 xs.length] hp nx fun v hp2 _ => v = .so id (ver + 1) 0 (Lib.compact xs).length ∧ hp2 = upd id (some (.rw ((Lib.compact xs).map eGTuple) 6 (ver + 1) br false)) hp :=
 inl_upd hi (inl_cut (tup_cpt xs h0 hn nx))
theorem sort0_in {b : Bool} {hp : Hp} {nx : Nat} : InlOK Try.prog 56 [.d (.sl []) b, .fn 57 []] hp nx fun v hp2 nx2 => v = .tu [] ∧ hp2 = hp ∧ nx2 = nx := by
 refine ⟨enSortF, fun g c args hhp hkn hr hsz hargs => ?_⟩
 obtain ⟨u0, a0, b0⟩ := hargs 0 _ rfl
 obtain ⟨u1, a1, b1⟩ := hargs 1 _ rfl
 have e0 : ∃ a k, u0 = .slice a 0 k := by
  cases (show RA g c (.d (.sl []) b) u0 from b0) with
  | d _ _ _ hr => cases hr with
   | nl a k => exact ⟨a, k, rfl⟩
   | sl _ b o k => exact ⟨_, _, rfl⟩
 obtain ⟨a, k, rfl⟩ := e0
 have hu1 : u1 = .func (.func 57) #[] #[] := by
  cases (show RA g c (.fn 57 []) u1 from b1) with
  | fn _ _ us n hn' _ =>
   simp only [List.length_nil] at hn'
   subst hn'
   rfl
 subst hu1
 have hargs2 : args = #[.slice a 0 k, .func (.func 57) #[] #[]] := by
  have hsz2 : args.size = 2 := by simpa using hsz
  apply Array.ext
  ·simpa using hsz2
  ·intro j h1 h2
   have hj : j = 0 ∨ j = 1 := by omega
   rcases hj with rfl | rfl
   ·simpa [h1] using a0
   ·simpa [h1] using a1
 subst hargs2
 have hcon := AnyF.slices_SortFunc_none Try.sortFuncTuple a k (.func (.func 57) #[] #[]) c.w
 change Calls Try.prog 56 _ _ _ at hcon
 refine hcon.mono ?_
 rintro e w' ⟨rfl, rfl⟩
 exact ⟨.tuple #[], .tu [], c, nx, rfl, ⟨rfl, hhp, rfl⟩, rfl, Ext.refl c, hr, ⟨#[], rfl, rfl, fun j x e => by simp at e⟩, Nat.le_refl _, fun i h => .inl h⟩
theorem compT0 : PureOK Try.prog 58 [.sl []] (.sl []) false := by
 refine pure_run (tab := tab) tab_ok fol Try.func58 rfl (by kernel_rfl) (by kernel_rfl) (by simp [Try.f58]) ?_
 simp -implicitDefEqProofs only [go_sem, Int.reduceLT, decide_true, Nat.reduceAdd, reduceCtorEq, ↓reduceIte]
 exact end_pure (v := .d (.sl []) true) (b := true) (is := []) (by simp -implicitDefEqProofs only [go_sem, ↓reduceIte, Try.f58] <;> rfl) rfl rfl (fun h => by cases h)
theorem rowsOf_pure (xs : List GTuple) (hn : xs.length ≤ 4294967296) : PureOK Try.prog 44 [.sl (xs.map eGTuple)] (.sl ((tO.ofL xs).map eGTuple)) true := by
 refine pure_run (tab := tab) tab_ok fol Try.func44 rfl (by kernel_rfl) (by kernel_rfl) (by simp [Try.f44]) ?_
 simp -implicitDefEqProofs only [go_sem, Nat.reduceAdd, reduceCtorEq, ↓reduceIte]
 by_cases h0 : 0 < xs.length
 ·refine onCall_inl ((cloneT_in xs h0 hn).mono ?_)
  rintro v hp2 nx2 ⟨rfl, rfl, rfl⟩
  simp -implicitDefEqProofs only [go_sem, Nat.reduceAdd, ↓reduceIte]
  refine onCall_inl ((sortT_in xs h0 hn (by simp -implicitDefEqProofs only [go_sem, ↓reduceIte] <;> rfl)).mono ?_)
  rintro v hp2 nx2 ⟨rfl, rfl, ys, h1, h2, rfl⟩
  simp -implicitDefEqProofs only [go_sem, Nat.reduceEqDiff, Nat.reduceAdd, ↓reduceIte]
  rw [← h1]
  have h0' : 0 < ys.length := by omega
  refine onCall_inl ((compT_in ys h0' (by omega) (by simp -implicitDefEqProofs only [go_sem, ↓reduceIte] <;> rfl)).mono ?_)
  rintro v hp2 nx2 ⟨rfl, rfl⟩
  rw [h2]
  simp -implicitDefEqProofs only [go_sem, Nat.reduceAdd, ↓reduceIte]
  exact end_pure (v := .so 7 2 0 (tO.ofL xs).length) (b := false) (is := [7]) (by simp -implicitDefEqProofs only [go_sem, ↓reduceIte, Try.f44] <;> rfl) (by simp -implicitDefEqProofs only [go_sem, ↓reduceIte] <;> rfl) rfl (fun _ => rfl)
 ·have e : xs = [] := List.eq_nil_of_length_eq_zero (by omega)
  subst e
  refine onCall_pure (by simp -implicitDefEqProofs only [go_sem] <;> rfl) cloneT0 (.inr rfl) ?_
  simp -implicitDefEqProofs only [go_sem, Nat.reduceAdd, ↓reduceIte]
  refine onCall_inl (sort0_in.mono ?_)
  rintro v hp2 nx2 ⟨rfl, rfl, rfl⟩
  simp -implicitDefEqProofs only [go_sem, Nat.reduceEqDiff, Nat.reduceAdd, ↓reduceIte]
  refine onCall_pure (by simp -implicitDefEqProofs only [go_sem] <;> rfl) compT0 (.inl rfl) ?_
  simp -implicitDefEqProofs only [go_sem, Nat.reduceAdd, ↓reduceIte]
  exact end_pure (v := .d (.sl []) false) (b := false) (is := []) (by simp -implicitDefEqProofs only [go_sem, ↓reduceIte, Try.f44] <;> rfl) rfl rfl (fun _ => rfl)
def rows_Of (_n : Nat) (xs : List GTuple) : Option (List GTuple) := if xs.length ≤ 4294967296 then some (tO.ofL xs) else none
theorem rows_Of_ok {n : Nat} {xs r : List GTuple} (h : rows_Of n xs = some r) : PureOK Try.prog 44 [D.sl (List.map eGTuple xs)] (D.sl (List.map eGTuple r)) true := by
 unfold rows_Of at h
 split at h
 ·rename_i hn
  obtain rfl := Option.some.inj h
  exact rowsOf_pure xs hn
 ·cases h
end Go.Proofs.Ytjkdbakgnnhdnaa.Ab
