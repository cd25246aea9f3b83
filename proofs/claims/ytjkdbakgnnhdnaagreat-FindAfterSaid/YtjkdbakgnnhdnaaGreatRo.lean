/-
 rows.Of: the set of some tuples.
-/
import Derived.Test.YtjkdbakgnnhdnaaGreatTca
import Derived.Test.YtjkdbakgnnhdnaaGreatCpt1
import Derived.Test.YtjkdbakgnnhdnaaGreatAbS
import Derived.Ground.SlsfProg
namespace Go.Proofs
open Go.Shelf Go.RowKit Go.Sort
def Tryz.sortFuncTuple_ren : Go.Shelf.Ren := ⟨fun | 6 => 71 | 15 => 57 | 14 => 94 | 28 => 83 | 29 => 84 | 20 => 108 | 21 => 109 | 22 => 110 | 23 => 111 | 24 => 112 | 25 => 113 | 26 => 114 | 27 => 115 | 46 => 120 | 47 => 98 | 48 => 99 | 49 => 121 | 50 => 122 | 57 => 124 | n => n, fun | 22 => 25 | 24 => 32 | 25 => 153 | 3 => 3 | 39 => 137 | 0 => 0 | 53 => 163 | 55 => 165 | 4 => 4 | 46 => 156 | 45 => 155 | 50 => 160 | 5 => 5 | 9 => 9 | 66 => 175 | 70 => 179 | 76 => 192 | 77 => 193 | n => n, fun | n => n⟩
theorem Tryz.sortFuncTuple : Go.Proofs.SlLaysF0.n6 Tryz.prog Tryz.sortFuncTuple_ren := {
 mixed := by kernel_rfl
 f6 := ⟨Tryz.f71.name, by decide, Tryz.func71.trans (congrArg some (by kernel_rfl))⟩
 f14 := ⟨Tryz.f94.name, by decide, Tryz.func94.trans (congrArg some (by kernel_rfl))⟩
 f15 := Tryz.func57.trans (congrArg some (by kernel_rfl))
 f20 := ⟨Tryz.f108.name, by decide, Tryz.func108.trans (congrArg some (by kernel_rfl))⟩
 f21 := ⟨Tryz.f109.name, by decide, Tryz.func109.trans (congrArg some (by kernel_rfl))⟩
 f22 := ⟨Tryz.f110.name, by decide, Tryz.func110.trans (congrArg some (by kernel_rfl))⟩
 f23 := ⟨Tryz.f111.name, by decide, Tryz.func111.trans (congrArg some (by kernel_rfl))⟩
 f24 := ⟨Tryz.f112.name, by decide, Tryz.func112.trans (congrArg some (by kernel_rfl))⟩
 f25 := ⟨Tryz.f113.name, by decide, Tryz.func113.trans (congrArg some (by kernel_rfl))⟩
 f26 := ⟨Tryz.f114.name, by decide, Tryz.func114.trans (congrArg some (by kernel_rfl))⟩
 f27 := ⟨Tryz.f115.name, by decide, Tryz.func115.trans (congrArg some (by kernel_rfl))⟩
 f28 := Tryz.func83.trans (congrArg some (by kernel_rfl))
 f29 := Tryz.func84.trans (congrArg some (by kernel_rfl))
 f46 := ⟨Tryz.f120.name, by decide, Tryz.func120.trans (congrArg some (by kernel_rfl))⟩
 f47 := Tryz.func98.trans (congrArg some (by kernel_rfl))
 f48 := Tryz.func99.trans (congrArg some (by kernel_rfl))
 f49 := ⟨Tryz.f121.name, by decide, Tryz.func121.trans (congrArg some (by kernel_rfl))⟩
 f50 := ⟨Tryz.f122.name, by decide, Tryz.func122.trans (congrArg some (by kernel_rfl))⟩
 f57 := ⟨Tryz.f124.name, by decide, Tryz.func124.trans (congrArg some (by kernel_rfl))⟩
 t0 := Tryz.underlying0
 a0 := Tryz.isAgg0
 z0 := Tryz.sizeOf0
 v0 := Tryz.zeroValue0
 t3 := Tryz.underlying3
 a3 := Tryz.isAgg3
 z3 := Tryz.sizeOf3
 v3 := Tryz.zeroValue3
 t4 := Tryz.underlying4
 a4 := Tryz.isAgg4
 z4 := Tryz.sizeOf4
 v4 := Tryz.zeroValue4
 t5 := Tryz.underlying5
 a5 := Tryz.isAgg5
 z5 := Tryz.sizeOf5
 v5 := Tryz.zeroValue5
 t9 := Tryz.underlying9
 a9 := Tryz.isAgg9
 z9 := Tryz.sizeOf9
 v9 := Tryz.zeroValue9
 t22 := Tryz.underlying25
 a22 := Tryz.isAgg25
 z22 := Tryz.sizeOf25
 v22 := Tryz.zeroValue25
 t25 := Tryz.underlying153
 a25 := Tryz.isAgg153
 z25 := Tryz.sizeOf153
 v25 := Tryz.zeroValue153
 t39 := Tryz.underlying137
 a39 := Tryz.isAgg137
 z39 := Tryz.sizeOf137
 v39 := Tryz.zeroValue137
 t45 := Tryz.underlying155
 a45 := Tryz.isAgg155
 z45 := Tryz.sizeOf155
 v45 := Tryz.zeroValue155
 t46 := Tryz.underlying156
 a46 := Tryz.isAgg156
 z46 := Tryz.sizeOf156
 v46 := Tryz.zeroValue156
 t50 := Tryz.underlying160
 a50 := Tryz.isAgg160
 z50 := Tryz.sizeOf160
 v50 := Tryz.zeroValue160
 t53 := Tryz.underlying163
 a53 := Tryz.isAgg163
 z53 := Tryz.sizeOf163
 v53 := Tryz.zeroValue163
 t55 := Tryz.underlying165
 a55 := Tryz.isAgg165
 z55 := Tryz.sizeOf165
 v55 := Tryz.zeroValue165
 t66 := Tryz.underlying175
 a66 := Tryz.isAgg175
 z66 := Tryz.sizeOf175
 v66 := Tryz.zeroValue175
 t70 := Tryz.underlying179
 a70 := Tryz.isAgg179
 z70 := Tryz.sizeOf179
 v70 := Tryz.zeroValue179
 t76 := Tryz.underlying192
 a76 := Tryz.isAgg192
 z76 := Tryz.sizeOf192
 v76 := Tryz.zeroValue192
 t77 := Tryz.underlying193
 a77 := Tryz.isAgg193
 z77 := Tryz.sizeOf193
 v77 := Tryz.zeroValue193 }
end Go.Proofs
namespace Go.Proofs.YtjkdbakgnnhdnaaGreat.Ab
open Go.Shelf Go.RowKit Go.Sort
def tk (t : GTuple) : List ByteArray := [t.obj.type_, t.obj.id_, t.rel, t.sub_.type_, t.sub_.id_, t.sub_.rel]
theorem tk_inj (x y : GTuple) (h : tk x = tk y) : x = y := by
 obtain ⟨⟨a, b⟩, c, ⟨d, e, f⟩⟩ := x
 obtain ⟨⟨a', b'⟩, c', ⟨d', e', f'⟩⟩ := y
 simp only [tk, List.cons.injEq, and_true] at h
 obtain ⟨rfl, rfl, rfl, rfl, rfl, rfl⟩ := h
 rfl
def tO : Lin GTuple := linL tk (fun _ _ => rfl) tk_inj
def cfT (x y : GTuple) : Int := cfL (tk x) (tk y)
theorem or_loop {n : Nat} {vs : List Int} (hx : vs.length < 4611686018427387904) : ∀ (c j : Nat), j ≤ vs.length → vs.length - j < c → cmp_Or_L1 n vs c (j : Int) = some (if orI (vs.drop j) = 0 then .inl () else .inr (orI (vs.drop j)))
 | 0, _, _, h => by omega
 | c + 1, j, hj, hc => by
  have ih := or_loop (n := n) hx c
  unfold cmp_Or_L1
  by_cases hlt : j < vs.length
  ·rw [dlt hlt, if_pos rfl, idxS hlt, Zo, List.drop_eq_getElem_cons hlt, wr1 (by omega)]
   unfold orI
   by_cases h : vs[j] = 0
   ·rw [h, if_pos rfl, ih _ (by omega) (by omega)]
    simp
   ·rw [if_neg h]
    simp [h]
  ·rw [dnlt (by omega), if_neg (by decide), List.drop_eq_nil_of_le (by omega)]
   rfl
theorem or_some {n : Nat} {vs : List Int} (hx : vs.length < 4611686018427387904) (hn : vs.length < n) : cmp_Or n vs = some (orI vs) := by
 unfold cmp_Or
 have h : cmp_Or_L1 n vs n 0 = _ := or_loop hx n 0 (by omega) (by omega)
 rw [h, List.drop_zero, Zo]
 by_cases e : orI vs = 0
 ·rw [if_pos e, e]
 ·rw [if_neg e]
theorem scmp_some (n : Nat) (a b : ByteArray) : strings_Compare n a b = some (cmS a b) := rfl
theorem compare_some {n : Nat} (hn : 10 < n) (x y : GTuple) : tupl_Compare n x y = some (cfT x y) := by
 unfold tupl_Compare
 simp only [scmp_some, Zo]
 rw [or_some (by simp) (by simp; omega)]
 rfl
theorem cmp_pure (x y : GTuple) : PureOK Tryz.prog 72 [.ag (eGTuple x), .ag (eGTuple y)] (.v (.int .i64 (cfT x y))) true := tupl_Compare_ok (compare_some (n := 100) (by decide) x y)
theorem cloneT0 : PureOK Tryz.prog 70 [.sl []] (.sl []) true :=
 clone_nil tab_ok fol Tryz.func70 (T := 25) (B := 4) rfl (by kernel_rfl) (by kernel_rfl) (by decide) rfl (by simp only [go_sem]) (by simp only [go_sem]) (by simp only [go_sem]; decide) (by simp only [go_sem]; decide)
theorem cloneT_in (xs : List GTuple) (h0 : 0 < xs.length) (hn : xs.length ≤ 4294967296) {b : Bool} {hp : Hp} {nx : Nat} :
  InlOK Tryz.prog 70 [.d (.sl (xs.map eGTuple)) b] hp nx fun v hp2 nx2 => v = .so (nx + 3) 1 0 xs.length ∧ hp2 = upd (nx + 3) (some (.rw (xs.map eGTuple) 6 1 false false)) hp ∧ nx2 = nx + 7 := by
 have h := clone_map (e := eGTuple) (k := 6) (b := b) (hp := hp) (nx := nx) tab_ok fol Tryz.func70 (T := 25) (B := 4) rfl (by kernel_rfl) (by kernel_rfl) (by decide) rfl (by simp only [go_sem]) (by simp only [go_sem]) (by simp only [go_sem]) (by decide) (by simp only [go_sem]; decide) (fun _ => rfl) xs h0 hn
 rw [plainR_map (f := eGTuple) (fun _ => rfl), Bool.not_true, Bool.and_false] at h
 exact h
theorem enSortF : Enters Tryz.prog 71 := ⟨_, Tryz.func71, by kernel_rfl, by kernel_rfl⟩
theorem sortT_in (xs : List GTuple) (h0 : 0 < xs.length) (hn : xs.length ≤ 4294967296) {id ver : Nat} {br : Bool} {hp : Hp} {nx : Nat} (hi : hp id = some (.rw (xs.map eGTuple) 6 ver br false)) :
  InlOK Tryz.prog 71 [.so id ver 0 xs.length, .fn 72 []] hp nx fun v hp2 nx2 => v = .tu [] ∧ nx2 = nx ∧ ∃ ys : List GTuple, ys.length = xs.length ∧ Lib.compact ys = tO.ofL xs ∧ hp2 = upd id (some (.rw (ys.map eGTuple) 6 ver br false)) hp := by
 have h := sort_inl (encD := eGTuple) (k := 6) (br := br) (nx := nx) Tryz.sortFuncTuple (fun w => by kernel_rfl) (fun w => by kernel_rfl) (fun _ => rfl) cfT tO.swo rfl enSortF (enters_of Tryz.func72 (by kernel_rfl) rfl) cmp_pure xs (by rintro rfl; simp at h0) (by omega) hi
 refine h.mono ?_
 rintro v hp2 nx2 ⟨rfl, rfl, ys, h1, h2, h3⟩
 exact ⟨rfl, rfl, ys, h1.length_eq, tO.compact_sorted (fun x => h1.mem_iff) h2, h3⟩
theorem compT_in (xs : List GTuple) (h0 : 0 < xs.length) (hn : xs.length ≤ 4294967296) {id ver : Nat} {br : Bool} {hp : Hp} {nx : Nat} (hi : hp id = some (.rw (xs.map eGTuple) 6 ver br false)) :
  InlOK Tryz.prog 73 [.so id ver 0 xs.length] hp nx fun v hp2 _ => v = .so id (ver + 1) 0 (Lib.compact xs).length ∧ hp2 = upd id (some (.rw ((Lib.compact xs).map eGTuple) 6 (ver + 1) br false)) hp :=
 inl_upd hi (inl_cut (tup_cpt xs h0 hn nx))
theorem sort0_in {b : Bool} {hp : Hp} {nx : Nat} : InlOK Tryz.prog 71 [.d (.sl []) b, .fn 72 []] hp nx fun v hp2 nx2 => v = .tu [] ∧ hp2 = hp ∧ nx2 = nx := by
 refine ⟨enSortF, fun g c args hhp hkn hr hsz hargs => ?_⟩
 obtain ⟨u0, a0, b0⟩ := hargs 0 _ rfl
 obtain ⟨u1, a1, b1⟩ := hargs 1 _ rfl
 have e0 : ∃ a k, u0 = .slice a 0 k := by
  cases (show RA g c (.d (.sl []) b) u0 from b0) with
  | d _ _ _ hr => cases hr with
   | nl a k => exact ⟨a, k, rfl⟩
   | sl _ b o k => exact ⟨_, _, rfl⟩
 obtain ⟨a, k, rfl⟩ := e0
 have hu1 : u1 = .func (.func 72) #[] #[] := by
  cases (show RA g c (.fn 72 []) u1 from b1) with
  | fn _ _ us n hn' _ =>
   simp only [List.length_nil] at hn'
   subst hn'
   rfl
 subst hu1
 have hargs2 : args = #[.slice a 0 k, .func (.func 72) #[] #[]] := by
  have hsz2 : args.size = 2 := by simpa using hsz
  apply Array.ext
  ·simpa using hsz2
  ·intro j h1 h2
   have hj : j = 0 ∨ j = 1 := by omega
   rcases hj with rfl | rfl
   ·simpa [h1] using a0
   ·simpa [h1] using a1
 subst hargs2
 have hcon := AnyF.slices_SortFunc_none Tryz.sortFuncTuple a k (.func (.func 72) #[] #[]) c.w
 change Calls Tryz.prog 71 _ _ _ at hcon
 refine hcon.mono ?_
 rintro e w' ⟨rfl, rfl⟩
 exact ⟨.tuple #[], .tu [], c, nx, rfl, ⟨rfl, hhp, rfl⟩, rfl, Ext.refl c, hr, ⟨#[], rfl, rfl, fun j x e => by simp at e⟩, Nat.le_refl _, fun i h => .inl h⟩
theorem compT0 : PureOK Tryz.prog 73 [.sl []] (.sl []) false := by
 refine pure_run (tab := tab) tab_ok fol Tryz.func73 rfl (by kernel_rfl) (by kernel_rfl) (by simp [Tryz.f73]) ?_
 simp -implicitDefEqProofs only [go_sem, Int.reduceLT, decide_true, Nat.reduceAdd, reduceCtorEq, ↓reduceIte]
 exact end_pure (v := .d (.sl []) true) (b := true) (is := []) (by simp -implicitDefEqProofs only [go_sem, ↓reduceIte, Tryz.f73] <;> rfl) rfl rfl (fun h => by cases h)
theorem rowsOf_pure (xs : List GTuple) (hn : xs.length ≤ 4294967296) : PureOK Tryz.prog 55 [.sl (xs.map eGTuple)] (.sl ((tO.ofL xs).map eGTuple)) true := by
 refine pure_run (tab := tab) tab_ok fol Tryz.func55 rfl (by kernel_rfl) (by kernel_rfl) (by simp [Tryz.f55]) ?_
 simp -implicitDefEqProofs only [go_sem, Nat.reduceAdd, reduceCtorEq, ↓reduceIte]
 by_cases h0 : 0 < xs.length
 ·refine onCall_inl ((cloneT_in xs h0 hn).mono ?_)
  rintro v hp2 nx2 ⟨rfl, rfl, rfl⟩
  simp -implicitDefEqProofs only [go_sem, Nat.reduceAdd, ↓reduceIte]
  refine onCall_inl ((sortT_in xs h0 hn (by simp -implicitDefEqProofs only [go_sem, ↓reduceIte] <;> rfl)).mono ?_)
  rintro v hp2 nx2 ⟨rfl, rfl, ys, h1, h2, rfl⟩
  simp -implicitDefEqProofs only [go_sem, Nat.reduceEqDiff, Nat.reduceAdd, ↓reduceIte]
  rw [← h1]
  have h0' : 0 < ys.length := by omega
  refine onCall_inl ((compT_in ys h0' (by omega) (by simp -implicitDefEqProofs only [go_sem, ↓reduceIte] <;> rfl)).mono ?_)
  rintro v hp2 nx2 ⟨rfl, rfl⟩
  rw [h2]
  simp -implicitDefEqProofs only [go_sem, Nat.reduceAdd, ↓reduceIte]
  exact end_pure (v := .so 7 2 0 (tO.ofL xs).length) (b := false) (is := [7]) (by simp -implicitDefEqProofs only [go_sem, ↓reduceIte, Tryz.f55] <;> rfl) (by simp -implicitDefEqProofs only [go_sem, ↓reduceIte] <;> rfl) rfl (fun _ => rfl)
 ·have e : xs = [] := List.eq_nil_of_length_eq_zero (by omega)
  subst e
  refine onCall_pure (by simp -implicitDefEqProofs only [go_sem] <;> rfl) cloneT0 (.inr rfl) ?_
  simp -implicitDefEqProofs only [go_sem, Nat.reduceAdd, ↓reduceIte]
  refine onCall_inl (sort0_in.mono ?_)
  rintro v hp2 nx2 ⟨rfl, rfl, rfl⟩
  simp -implicitDefEqProofs only [go_sem, Nat.reduceEqDiff, Nat.reduceAdd, ↓reduceIte]
  refine onCall_pure (by simp -implicitDefEqProofs only [go_sem] <;> rfl) compT0 (.inl rfl) ?_
  simp -implicitDefEqProofs only [go_sem, Nat.reduceAdd, ↓reduceIte]
  exact end_pure (v := .d (.sl []) false) (b := false) (is := []) (by simp -implicitDefEqProofs only [go_sem, ↓reduceIte, Tryz.f55] <;> rfl) rfl rfl (fun _ => rfl)
def rows_Of (_n : Nat) (xs : List GTuple) : Option (List GTuple) := if xs.length ≤ 4294967296 then some (tO.ofL xs) else none
theorem rows_Of_ok {n : Nat} {xs r : List GTuple} (h : rows_Of n xs = some r) : PureOK Tryz.prog 55 [D.sl (List.map eGTuple xs)] (D.sl (List.map eGTuple r)) true := by
 unfold rows_Of at h
 split at h
 ·rename_i hn
  obtain rfl := Option.some.inj h
  exact rowsOf_pure xs hn
 ·cases h
end Go.Proofs.YtjkdbakgnnhdnaaGreat.Ab
