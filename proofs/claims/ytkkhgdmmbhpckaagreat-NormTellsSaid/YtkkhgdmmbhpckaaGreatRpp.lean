/-
 norm.pairs: the set of some pairs.
-/
import Derived.Test.YtkkhgdmmbhpckaaGreatNca
import Derived.Test.YtkkhgdmmbhpckaaGreatCpp
import Derived.Test.YtkkhgdmmbhpckaaGreatAbS
import Derived.Ground.SlsfProg
namespace Go.Proofs
open Go.Shelf Go.RowKit Go.Sort
def Tryz.sortFuncGPair_ren : Go.Shelf.Ren := ⟨fun | 6 => 57 | 15 => 80 | 14 => 83 | 28 => 102 | 29 => 103 | 20 => 104 | 21 => 105 | 22 => 106 | 23 => 107 | 24 => 108 | 25 => 109 | 26 => 110 | 27 => 111 | 46 => 144 | 47 => 140 | 48 => 141 | 49 => 145 | 50 => 146 | 57 => 157 | n => n, fun | 22 => 24 | 24 => 35 | 25 => 92 | 3 => 3 | 39 => 33 | 0 => 0 | 53 => 130 | 55 => 132 | 4 => 4 | 46 => 122 | 45 => 121 | 50 => 127 | 5 => 5 | 9 => 9 | 66 => 154 | 70 => 158 | 76 => 168 | 77 => 169 | n => n, fun | n => n⟩
theorem Tryz.sortFuncGPair : Go.Proofs.SlLaysF0.n6 Tryz.prog Tryz.sortFuncGPair_ren := {
 mixed := by kernel_rfl
 f6 := ⟨Tryz.f57.name, by decide, Tryz.func57.trans (congrArg some (by kernel_rfl))⟩
 f14 := ⟨Tryz.f83.name, by decide, Tryz.func83.trans (congrArg some (by kernel_rfl))⟩
 f15 := Tryz.func80.trans (congrArg some (by kernel_rfl))
 f20 := ⟨Tryz.f104.name, by decide, Tryz.func104.trans (congrArg some (by kernel_rfl))⟩
 f21 := ⟨Tryz.f105.name, by decide, Tryz.func105.trans (congrArg some (by kernel_rfl))⟩
 f22 := ⟨Tryz.f106.name, by decide, Tryz.func106.trans (congrArg some (by kernel_rfl))⟩
 f23 := ⟨Tryz.f107.name, by decide, Tryz.func107.trans (congrArg some (by kernel_rfl))⟩
 f24 := ⟨Tryz.f108.name, by decide, Tryz.func108.trans (congrArg some (by kernel_rfl))⟩
 f25 := ⟨Tryz.f109.name, by decide, Tryz.func109.trans (congrArg some (by kernel_rfl))⟩
 f26 := ⟨Tryz.f110.name, by decide, Tryz.func110.trans (congrArg some (by kernel_rfl))⟩
 f27 := ⟨Tryz.f111.name, by decide, Tryz.func111.trans (congrArg some (by kernel_rfl))⟩
 f28 := Tryz.func102.trans (congrArg some (by kernel_rfl))
 f29 := Tryz.func103.trans (congrArg some (by kernel_rfl))
 f46 := ⟨Tryz.f144.name, by decide, Tryz.func144.trans (congrArg some (by kernel_rfl))⟩
 f47 := Tryz.func140.trans (congrArg some (by kernel_rfl))
 f48 := Tryz.func141.trans (congrArg some (by kernel_rfl))
 f49 := ⟨Tryz.f145.name, by decide, Tryz.func145.trans (congrArg some (by kernel_rfl))⟩
 f50 := ⟨Tryz.f146.name, by decide, Tryz.func146.trans (congrArg some (by kernel_rfl))⟩
 f57 := ⟨Tryz.f157.name, by decide, Tryz.func157.trans (congrArg some (by kernel_rfl))⟩
 t0 := Tryz.underlying0
 a0 := Tryz.isAgg0
 z0 := Tryz.sizeOf0
 v0 := Tryz.zeroValue0
 t3 := Tryz.underlying3
 a3 := Tryz.isAgg3
 z3 := Tryz.sizeOf3
 v3 := Tryz.zeroValue3
 t4 := Tryz.underlying4
 a4 := Tryz.isAgg4
 z4 := Tryz.sizeOf4
 v4 := Tryz.zeroValue4
 t5 := Tryz.underlying5
 a5 := Tryz.isAgg5
 z5 := Tryz.sizeOf5
 v5 := Tryz.zeroValue5
 t9 := Tryz.underlying9
 a9 := Tryz.isAgg9
 z9 := Tryz.sizeOf9
 v9 := Tryz.zeroValue9
 t22 := Tryz.underlying24
 a22 := Tryz.isAgg24
 z22 := Tryz.sizeOf24
 v22 := Tryz.zeroValue24
 t25 := Tryz.underlying92
 a25 := Tryz.isAgg92
 z25 := Tryz.sizeOf92
 v25 := Tryz.zeroValue92
 t39 := Tryz.underlying33
 a39 := Tryz.isAgg33
 z39 := Tryz.sizeOf33
 v39 := Tryz.zeroValue33
 t45 := Tryz.underlying121
 a45 := Tryz.isAgg121
 z45 := Tryz.sizeOf121
 v45 := Tryz.zeroValue121
 t46 := Tryz.underlying122
 a46 := Tryz.isAgg122
 z46 := Tryz.sizeOf122
 v46 := Tryz.zeroValue122
 t50 := Tryz.underlying127
 a50 := Tryz.isAgg127
 z50 := Tryz.sizeOf127
 v50 := Tryz.zeroValue127
 t53 := Tryz.underlying130
 a53 := Tryz.isAgg130
 z53 := Tryz.sizeOf130
 v53 := Tryz.zeroValue130
 t55 := Tryz.underlying132
 a55 := Tryz.isAgg132
 z55 := Tryz.sizeOf132
 v55 := Tryz.zeroValue132
 t66 := Tryz.underlying154
 a66 := Tryz.isAgg154
 z66 := Tryz.sizeOf154
 v66 := Tryz.zeroValue154
 t70 := Tryz.underlying158
 a70 := Tryz.isAgg158
 z70 := Tryz.sizeOf158
 v70 := Tryz.zeroValue158
 t76 := Tryz.underlying168
 a76 := Tryz.isAgg168
 z76 := Tryz.sizeOf168
 v76 := Tryz.zeroValue168
 t77 := Tryz.underlying169
 a77 := Tryz.isAgg169
 z77 := Tryz.sizeOf169
 v77 := Tryz.zeroValue169 }
end Go.Proofs
namespace Go.Proofs.YtkkhgdmmbhpckaaGreat.Ab
open Go.Shelf Go.RowKit Go.Sort
def tkpr (t : GPair) : List ByteArray := [t.a, t.b]
theorem rg_ (x y : GPair) (h : tkpr x = tkpr y) : x = y := by
 obtain ⟨a0, a1⟩ := x;obtain ⟨b0, b1⟩ := y;simp only [tkpr, List.cons.injEq, and_true] at h;obtain ⟨rfl, rfl⟩ := h;rfl
def tOpr : Lin GPair := linL tkpr (fun _ _ => rfl) rg_
def cfTpr (x y : GPair) : Int := cfL (tkpr x) (tkpr y)
theorem nE_ {n : Nat} {vs : List Int} (hx : vs.length < 4611686018427387904) : ∀ (c j : Nat), j ≤ vs.length → vs.length - j < c → zP_ n vs c (j : Int) = some (if orI (vs.drop j) = 0 then .inl () else .inr (orI (vs.drop j)))
 | 0, _, _, h => by omega
 | c + 1, j, hj, hc => by
  have ih := nE_ (n := n) hx c;unfold zP_;by_cases hlt : j < vs.length
  ·rw [dlt hlt, if_pos rfl, idxS hlt, Option.bind_some, List.drop_eq_getElem_cons hlt, wr1 (by omega)]
   unfold orI;by_cases h : vs[j] = 0
   ·rw [h, if_pos rfl, ih _ (by omega) (by omega)]
    simp
   ·rw [if_neg h]
    simp [h]
  ·rw [dnlt (by omega), if_neg (by decide), List.drop_eq_nil_of_le (by omega)]
   rfl
theorem dT_ {n : Nat} {vs : List Int} (hx : vs.length < 4611686018427387904) (hn : vs.length < n) : kc_ n vs = some (orI vs) := by
 unfold kc_;have h : zP_ n vs n 0 = _ := nE_ hx n 0 (by omega) (by omega);rw [h, List.drop_zero, Option.bind_some];by_cases e : orI vs = 0
 ·rw [if_pos e, e]
 ·rw [if_neg e]
theorem de_ (n : Nat) (a b : ByteArray) : qA_ n a b = some (cmS a b) := rfl
theorem uL_ {n : Nat} (hn : 10 < n) (x y : GPair) : zA_ n x y = some (cfTpr x y) := by
 unfold zA_;simp only [de_, Option.bind_some];rw [dT_ (by simp) (by simp; omega)];rfl
theorem hH_ (x y : GPair) : PureOK Tryz.prog 58 [.ag (eGPair x), .ag (eGPair y)] (.v (.int .i64 (cfTpr x y))) true := yi_ (uL_ (n := 100) (by decide) x y)
theorem nF_ : PureOK Tryz.prog 56 [.sl []] (.sl []) true :=
 w4_ qo_ fol Tryz.func56 (T := 24) (B := 4) rfl (by kernel_rfl) (by kernel_rfl) (by decide) rfl (by simp only [go_sem]) (by simp only [go_sem]) (by simp only [go_sem]; decide) (by simp only [go_sem]; decide)
theorem dU_ (xs : List GPair) (h0 : 0 < xs.length) (hn : xs.length ≤ 4294967296) {b : Bool} {hp : Hp} {nx : Nat} :
  InlOK Tryz.prog 56 [.d (.sl (xs.map eGPair)) b] hp nx fun v hp2 nx2 => v = .so (nx + 3) 1 0 xs.length ∧ hp2 = upd (nx + 3) (some (.rw (xs.map eGPair) 2 1 false false)) hp ∧ nx2 = nx + 7 := by
 have h := uh_ (e := eGPair) (k := 2) (b := b) (hp := hp) (nx := nx) qo_ fol Tryz.func56 (T := 24) (B := 4) rfl (by kernel_rfl) (by kernel_rfl) (by decide) rfl (by simp only [go_sem]) (by simp only [go_sem]) (by simp only [go_sem]) (by decide) (by simp only [go_sem]; decide) (fun _ => rfl) xs h0 hn;rw [qx_ (f := eGPair) (fun _ => rfl), Bool.not_true, Bool.and_false] at h;exact h
theorem df_ : zM_ Tryz.prog 57 := ⟨_, Tryz.func57, by kernel_rfl, by kernel_rfl⟩
theorem hI_ (xs : List GPair) (h0 : 0 < xs.length) (hn : xs.length ≤ 4294967296) {id ver : Nat} {br : Bool} {hp : Hp} {nx : Nat} (hi : hp id = some (.rw (xs.map eGPair) 2 ver br false)) :
  InlOK Tryz.prog 57 [.so id ver 0 xs.length, .fn 58 []] hp nx fun v hp2 nx2 => v = .tu [] ∧ nx2 = nx ∧ ∃ ys : List GPair, ys.length = xs.length ∧ Lib.compact ys = tOpr.ofL xs ∧ hp2 = upd id (some (.rw (ys.map eGPair) 2 ver br false)) hp := by
 have h := gF_ (encD := eGPair) (k := 2) (br := br) (nx := nx) Tryz.sortFuncGPair (fun w => by kernel_rfl) (fun w => by kernel_rfl) (fun _ => rfl) cfTpr tOpr.swo rfl df_ (enters_of Tryz.func58 (by kernel_rfl) rfl) hH_ xs (by rintro rfl; simp at h0) (by omega) hi;refine h.mono ?_;rintro v hp2 nx2 ⟨rfl, rfl, ys, h1, h2, h3⟩
 exact ⟨rfl, rfl, ys, h1.length_eq, tOpr.compact_sorted (fun x => h1.mem_iff) h2, h3⟩
theorem hJ_ (xs : List GPair) (h0 : 0 < xs.length) (hn : xs.length ≤ 4294967296) {id ver : Nat} {br : Bool} {hp : Hp} {nx : Nat} (hi : hp id = some (.rw (xs.map eGPair) 2 ver br false)) :
  InlOK Tryz.prog 61 [.so id ver 0 xs.length] hp nx fun v hp2 _ => v = .so id (ver + 1) 0 (Lib.compact xs).length ∧ hp2 = upd id (some (.rw ((Lib.compact xs).map eGPair) 2 (ver + 1) br false)) hp :=
 gK_ hi (gJ_ (pr_cpt xs h0 hn nx))
theorem sort0_inpr {b : Bool} {hp : Hp} {nx : Nat} : InlOK Tryz.prog 57 [.d (.sl []) b, .fn 58 []] hp nx fun v hp2 nx2 => v = .tu [] ∧ hp2 = hp ∧ nx2 = nx := by
 refine ⟨df_, fun g c args hhp hkn hr hsz hargs => ?_⟩;obtain ⟨u0, a0, b0⟩ := hargs 0 _ rfl;obtain ⟨u1, a1, b1⟩ := hargs 1 _ rfl;have e0 : ∃ a k, u0 = .slice a 0 k := by
  cases (show RA g c (.d (.sl []) b) u0 from b0) with
  | d _ _ _ hr => cases hr with
   | nl a k => exact ⟨a, k, rfl⟩
   | sl _ b o k => exact ⟨_, _, rfl⟩
 obtain ⟨a, k, rfl⟩ := e0;have hu1 : u1 = .func (.func 58) #[] #[] := by
  cases (show RA g c (.fn 58 []) u1 from b1) with
  | fn _ _ us n hn' _ =>
   simp only [List.length_nil] at hn';subst hn';rfl
 subst hu1;have hargs2 : args = #[.slice a 0 k, .func (.func 58) #[] #[]] := by
  have hsz2 : args.size = 2 := by simpa using hsz
  apply Array.ext
  ·simpa using hsz2
  ·intro j h1 h2
   have hj : j = 0 ∨ j = 1 := by omega
   rcases hj with rfl | rfl
   ·simpa [h1] using a0
   ·simpa [h1] using a1
 subst hargs2;have hcon := AnyF.slices_SortFunc_none Tryz.sortFuncGPair a k (.func (.func 58) #[] #[]) c.w;change Calls Tryz.prog 57 _ _ _ at hcon;refine hcon.mono ?_;rintro e w' ⟨rfl, rfl⟩;exact ⟨.tuple #[], .tu [], c, nx, rfl, ⟨rfl, hhp, rfl⟩, rfl, Ext.refl c, hr, ⟨#[], rfl, rfl, fun j x e => by simp at e⟩, Nat.le_refl _, fun i h => .inl h⟩
theorem rh_ : PureOK Tryz.prog 61 [.sl []] (.sl []) false := by
 refine wZ_ (tab := tab) qo_ fol Tryz.func61 rfl (by kernel_rfl) (by kernel_rfl) (by simp [Tryz.f61]) ?_;simp -implicitDefEqProofs only [go_sem, Int.reduceLT, decide_true, Nat.reduceAdd, reduceCtorEq, ↓reduceIte];exact xJ_ (v := .d (.sl []) true) (b := true) (is := []) (by simp -implicitDefEqProofs only [go_sem, ↓reduceIte, Tryz.f61] <;> rfl) rfl rfl (fun h => by cases h)
theorem us_ (xs : List GPair) (hn : xs.length ≤ 4294967296) : PureOK Tryz.prog 31 [.sl (xs.map eGPair)] (.sl ((tOpr.ofL xs).map eGPair)) true := by
 refine wZ_ (tab := tab) qo_ fol Tryz.func31 rfl (by kernel_rfl) (by kernel_rfl) (by simp [Tryz.f31]) ?_;simp -implicitDefEqProofs only [go_sem, Nat.reduceAdd, reduceCtorEq, ↓reduceIte];by_cases h0 : 0 < xs.length
 ·refine qz_ ((dU_ xs h0 hn).mono ?_)
  rintro v hp2 nx2 ⟨rfl, rfl, rfl⟩;simp -implicitDefEqProofs only [go_sem, Nat.reduceAdd, ↓reduceIte];refine qz_ ((hI_ xs h0 hn (by simp -implicitDefEqProofs only [go_sem, ↓reduceIte] <;> rfl)).mono ?_);rintro v hp2 nx2 ⟨rfl, rfl, ys, h1, h2, rfl⟩;simp -implicitDefEqProofs only [go_sem, Nat.reduceEqDiff, Nat.reduceAdd, ↓reduceIte];rw [← h1];have h0' : 0 < ys.length := by omega
  refine qz_ ((hJ_ ys h0' (by omega) (by simp -implicitDefEqProofs only [go_sem, ↓reduceIte] <;> rfl)).mono ?_);rintro v hp2 nx2 ⟨rfl, rfl⟩;rw [h2];simp -implicitDefEqProofs only [go_sem, Nat.reduceAdd, ↓reduceIte]
  exact xJ_ (v := .so 7 2 0 (tOpr.ofL xs).length) (b := false) (is := [7]) (by simp -implicitDefEqProofs only [go_sem, ↓reduceIte, Tryz.f31] <;> rfl) (by simp -implicitDefEqProofs only [go_sem, ↓reduceIte] <;> rfl) rfl (fun _ => rfl)
 ·have e : xs = [] := List.eq_nil_of_length_eq_zero (by omega)
  subst e;refine j1_ (by simp -implicitDefEqProofs only [go_sem] <;> rfl) nF_ (.inr rfl) ?_;simp -implicitDefEqProofs only [go_sem, Nat.reduceAdd, ↓reduceIte];refine qz_ (sort0_inpr.mono ?_);rintro v hp2 nx2 ⟨rfl, rfl, rfl⟩;simp -implicitDefEqProofs only [go_sem, Nat.reduceEqDiff, Nat.reduceAdd, ↓reduceIte];refine j1_ (by simp -implicitDefEqProofs only [go_sem] <;> rfl) rh_ (.inl rfl) ?_
  simp -implicitDefEqProofs only [go_sem, Nat.reduceAdd, ↓reduceIte];exact xJ_ (v := .d (.sl []) false) (b := false) (is := []) (by simp -implicitDefEqProofs only [go_sem, ↓reduceIte, Tryz.f31] <;> rfl) rfl rfl (fun _ => rfl)
def zG_ (_n : Nat) (xs : List GPair) : Option (List GPair) := if xs.length ≤ 4294967296 then some (tOpr.ofL xs) else none
theorem kw_ {n : Nat} {xs r : List GPair} (h : zG_ n xs = some r) : PureOK Tryz.prog 31 [D.sl (List.map eGPair xs)] (D.sl (List.map eGPair r)) true := by
 unfold zG_ at h;split at h
 ·rename_i hn
  obtain rfl := Option.some.inj h;exact us_ xs hn
 ·cases h
end Go.Proofs.YtkkhgdmmbhpckaaGreat.Ab
