/-
 norm.grants: the set of some grants.
-/
import Derived.Test.YtkkhgdmmbhpckaaGreatRpp
import Derived.Test.YtkkhgdmmbhpckaaGreatCpg
namespace Go.Proofs
open Go.Shelf Go.RowKit Go.Sort
def Tryz.sortFuncGGrant_ren : Go.Shelf.Ren := ⟨fun | 6 => 63 | 15 => 80 | 14 => 85 | 28 => 102 | 29 => 103 | 20 => 113 | 21 => 114 | 22 => 115 | 23 => 116 | 24 => 117 | 25 => 118 | 26 => 119 | 27 => 120 | 46 => 147 | 47 => 140 | 48 => 141 | 49 => 148 | 50 => 149 | 57 => 158 | n => n, fun | 22 => 25 | 24 => 57 | 25 => 94 | 3 => 3 | 39 => 33 | 0 => 0 | 53 => 130 | 55 => 132 | 4 => 4 | 46 => 122 | 45 => 121 | 50 => 127 | 5 => 5 | 9 => 9 | 66 => 154 | 70 => 158 | 76 => 168 | 77 => 169 | n => n, fun | n => n⟩
theorem Tryz.sortFuncGGrant : Go.Proofs.SlLaysF0.n6 Tryz.prog Tryz.sortFuncGGrant_ren := {
 mixed := by kernel_rfl
 f6 := ⟨Tryz.f63.name, by decide, Tryz.func63.trans (congrArg some (by kernel_rfl))⟩
 f14 := ⟨Tryz.f85.name, by decide, Tryz.func85.trans (congrArg some (by kernel_rfl))⟩
 f15 := Tryz.func80.trans (congrArg some (by kernel_rfl))
 f20 := ⟨Tryz.f113.name, by decide, Tryz.func113.trans (congrArg some (by kernel_rfl))⟩
 f21 := ⟨Tryz.f114.name, by decide, Tryz.func114.trans (congrArg some (by kernel_rfl))⟩
 f22 := ⟨Tryz.f115.name, by decide, Tryz.func115.trans (congrArg some (by kernel_rfl))⟩
 f23 := ⟨Tryz.f116.name, by decide, Tryz.func116.trans (congrArg some (by kernel_rfl))⟩
 f24 := ⟨Tryz.f117.name, by decide, Tryz.func117.trans (congrArg some (by kernel_rfl))⟩
 f25 := ⟨Tryz.f118.name, by decide, Tryz.func118.trans (congrArg some (by kernel_rfl))⟩
 f26 := ⟨Tryz.f119.name, by decide, Tryz.func119.trans (congrArg some (by kernel_rfl))⟩
 f27 := ⟨Tryz.f120.name, by decide, Tryz.func120.trans (congrArg some (by kernel_rfl))⟩
 f28 := Tryz.func102.trans (congrArg some (by kernel_rfl))
 f29 := Tryz.func103.trans (congrArg some (by kernel_rfl))
 f46 := ⟨Tryz.f147.name, by decide, Tryz.func147.trans (congrArg some (by kernel_rfl))⟩
 f47 := Tryz.func140.trans (congrArg some (by kernel_rfl))
 f48 := Tryz.func141.trans (congrArg some (by kernel_rfl))
 f49 := ⟨Tryz.f148.name, by decide, Tryz.func148.trans (congrArg some (by kernel_rfl))⟩
 f50 := ⟨Tryz.f149.name, by decide, Tryz.func149.trans (congrArg some (by kernel_rfl))⟩
 f57 := ⟨Tryz.f158.name, by decide, Tryz.func158.trans (congrArg some (by kernel_rfl))⟩
 t0 := Tryz.underlying0
 a0 := Tryz.isAgg0
 z0 := Tryz.sizeOf0
 v0 := Tryz.zeroValue0
 t3 := Tryz.underlying3
 a3 := Tryz.isAgg3
 z3 := Tryz.sizeOf3
 v3 := Tryz.zeroValue3
 t4 := Tryz.underlying4
 a4 := Tryz.isAgg4
 z4 := Tryz.sizeOf4
 v4 := Tryz.zeroValue4
 t5 := Tryz.underlying5
 a5 := Tryz.isAgg5
 z5 := Tryz.sizeOf5
 v5 := Tryz.zeroValue5
 t9 := Tryz.underlying9
 a9 := Tryz.isAgg9
 z9 := Tryz.sizeOf9
 v9 := Tryz.zeroValue9
 t22 := Tryz.underlying25
 a22 := Tryz.isAgg25
 z22 := Tryz.sizeOf25
 v22 := Tryz.zeroValue25
 t25 := Tryz.underlying94
 a25 := Tryz.isAgg94
 z25 := Tryz.sizeOf94
 v25 := Tryz.zeroValue94
 t39 := Tryz.underlying33
 a39 := Tryz.isAgg33
 z39 := Tryz.sizeOf33
 v39 := Tryz.zeroValue33
 t45 := Tryz.underlying121
 a45 := Tryz.isAgg121
 z45 := Tryz.sizeOf121
 v45 := Tryz.zeroValue121
 t46 := Tryz.underlying122
 a46 := Tryz.isAgg122
 z46 := Tryz.sizeOf122
 v46 := Tryz.zeroValue122
 t50 := Tryz.underlying127
 a50 := Tryz.isAgg127
 z50 := Tryz.sizeOf127
 v50 := Tryz.zeroValue127
 t53 := Tryz.underlying130
 a53 := Tryz.isAgg130
 z53 := Tryz.sizeOf130
 v53 := Tryz.zeroValue130
 t55 := Tryz.underlying132
 a55 := Tryz.isAgg132
 z55 := Tryz.sizeOf132
 v55 := Tryz.zeroValue132
 t66 := Tryz.underlying154
 a66 := Tryz.isAgg154
 z66 := Tryz.sizeOf154
 v66 := Tryz.zeroValue154
 t70 := Tryz.underlying158
 a70 := Tryz.isAgg158
 z70 := Tryz.sizeOf158
 v70 := Tryz.zeroValue158
 t76 := Tryz.underlying168
 a76 := Tryz.isAgg168
 z76 := Tryz.sizeOf168
 v76 := Tryz.zeroValue168
 t77 := Tryz.underlying169
 a77 := Tryz.isAgg169
 z77 := Tryz.sizeOf169
 v77 := Tryz.zeroValue169 }
end Go.Proofs
namespace Go.Proofs.YtkkhgdmmbhpckaaGreat.Ab
open Go.Shelf Go.RowKit Go.Sort
def tkgt (t : GGrant) : List ByteArray := [t.role, t.op, t.obj]
theorem re_ (x y : GGrant) (h : tkgt x = tkgt y) : x = y := by
 obtain ⟨a0, a1, a2⟩ := x;obtain ⟨b0, b1, b2⟩ := y;simp only [tkgt, List.cons.injEq, and_true] at h;obtain ⟨rfl, rfl, rfl⟩ := h;rfl
def tOgt : Lin GGrant := linL tkgt (fun _ _ => rfl) re_
def cfTgt (x y : GGrant) : Int := cfL (tkgt x) (tkgt y)
theorem uJ_ {n : Nat} (hn : 10 < n) (x y : GGrant) : zi_ n x y = some (cfTgt x y) := by
 unfold zi_;simp only [de_, Option.bind_some];rw [dT_ (by simp) (by simp; omega)];rfl
theorem hE_ (x y : GGrant) : PureOK Tryz.prog 64 [.ag (eGGrant x), .ag (eGGrant y)] (.v (.int .i64 (cfTgt x y))) true := kL_ (uJ_ (n := 100) (by decide) x y)
theorem nD_ : PureOK Tryz.prog 62 [.sl []] (.sl []) true :=
 w4_ qo_ fol Tryz.func62 (T := 25) (B := 4) rfl (by kernel_rfl) (by kernel_rfl) (by decide) rfl (by simp only [go_sem]) (by simp only [go_sem]) (by simp only [go_sem]; decide) (by simp only [go_sem]; decide)
theorem dS_ (xs : List GGrant) (h0 : 0 < xs.length) (hn : xs.length ≤ 4294967296) {b : Bool} {hp : Hp} {nx : Nat} :
  InlOK Tryz.prog 62 [.d (.sl (xs.map eGGrant)) b] hp nx fun v hp2 nx2 => v = .so (nx + 3) 1 0 xs.length ∧ hp2 = upd (nx + 3) (some (.rw (xs.map eGGrant) 3 1 false false)) hp ∧ nx2 = nx + 7 := by
 have h := uh_ (e := eGGrant) (k := 3) (b := b) (hp := hp) (nx := nx) qo_ fol Tryz.func62 (T := 25) (B := 4) rfl (by kernel_rfl) (by kernel_rfl) (by decide) rfl (by simp only [go_sem]) (by simp only [go_sem]) (by simp only [go_sem]) (by decide) (by simp only [go_sem]; decide) (fun _ => rfl) xs h0 hn;rw [qx_ (f := eGGrant) (fun _ => rfl), Bool.not_true, Bool.and_false] at h;exact h
theorem dd_ : zM_ Tryz.prog 63 := ⟨_, Tryz.func63, by kernel_rfl, by kernel_rfl⟩
theorem hF_ (xs : List GGrant) (h0 : 0 < xs.length) (hn : xs.length ≤ 4294967296) {id ver : Nat} {br : Bool} {hp : Hp} {nx : Nat} (hi : hp id = some (.rw (xs.map eGGrant) 3 ver br false)) :
  InlOK Tryz.prog 63 [.so id ver 0 xs.length, .fn 64 []] hp nx fun v hp2 nx2 => v = .tu [] ∧ nx2 = nx ∧ ∃ ys : List GGrant, ys.length = xs.length ∧ Lib.compact ys = tOgt.ofL xs ∧ hp2 = upd id (some (.rw (ys.map eGGrant) 3 ver br false)) hp := by
 have h := gF_ (encD := eGGrant) (k := 3) (br := br) (nx := nx) Tryz.sortFuncGGrant (fun w => by kernel_rfl) (fun w => by kernel_rfl) (fun _ => rfl) cfTgt tOgt.swo rfl dd_ (enters_of Tryz.func64 (by kernel_rfl) rfl) hE_ xs (by rintro rfl; simp at h0) (by omega) hi;refine h.mono ?_;rintro v hp2 nx2 ⟨rfl, rfl, ys, h1, h2, h3⟩
 exact ⟨rfl, rfl, ys, h1.length_eq, tOgt.compact_sorted (fun x => h1.mem_iff) h2, h3⟩
theorem hG_ (xs : List GGrant) (h0 : 0 < xs.length) (hn : xs.length ≤ 4294967296) {id ver : Nat} {br : Bool} {hp : Hp} {nx : Nat} (hi : hp id = some (.rw (xs.map eGGrant) 3 ver br false)) :
  InlOK Tryz.prog 65 [.so id ver 0 xs.length] hp nx fun v hp2 _ => v = .so id (ver + 1) 0 (Lib.compact xs).length ∧ hp2 = upd id (some (.rw ((Lib.compact xs).map eGGrant) 3 (ver + 1) br false)) hp :=
 gK_ hi (gJ_ (gt_cpt xs h0 hn nx))
theorem sort0_ingt {b : Bool} {hp : Hp} {nx : Nat} : InlOK Tryz.prog 63 [.d (.sl []) b, .fn 64 []] hp nx fun v hp2 nx2 => v = .tu [] ∧ hp2 = hp ∧ nx2 = nx := by
 refine ⟨dd_, fun g c args hhp hkn hr hsz hargs => ?_⟩;obtain ⟨u0, a0, b0⟩ := hargs 0 _ rfl;obtain ⟨u1, a1, b1⟩ := hargs 1 _ rfl;have e0 : ∃ a k, u0 = .slice a 0 k := by
  cases (show RA g c (.d (.sl []) b) u0 from b0) with
  | d _ _ _ hr => cases hr with
   | nl a k => exact ⟨a, k, rfl⟩
   | sl _ b o k => exact ⟨_, _, rfl⟩
 obtain ⟨a, k, rfl⟩ := e0;have hu1 : u1 = .func (.func 64) #[] #[] := by
  cases (show RA g c (.fn 64 []) u1 from b1) with
  | fn _ _ us n hn' _ =>
   simp only [List.length_nil] at hn';subst hn';rfl
 subst hu1;have hargs2 : args = #[.slice a 0 k, .func (.func 64) #[] #[]] := by
  have hsz2 : args.size = 2 := by simpa using hsz
  apply Array.ext
  ·simpa using hsz2
  ·intro j h1 h2
   have hj : j = 0 ∨ j = 1 := by omega
   rcases hj with rfl | rfl
   ·simpa [h1] using a0
   ·simpa [h1] using a1
 subst hargs2;have hcon := AnyF.slices_SortFunc_none Tryz.sortFuncGGrant a k (.func (.func 64) #[] #[]) c.w;change Calls Tryz.prog 63 _ _ _ at hcon;refine hcon.mono ?_;rintro e w' ⟨rfl, rfl⟩;exact ⟨.tuple #[], .tu [], c, nx, rfl, ⟨rfl, hhp, rfl⟩, rfl, Ext.refl c, hr, ⟨#[], rfl, rfl, fun j x e => by simp at e⟩, Nat.le_refl _, fun i h => .inl h⟩
theorem rf_ : PureOK Tryz.prog 65 [.sl []] (.sl []) false := by
 refine wZ_ (tab := tab) qo_ fol Tryz.func65 rfl (by kernel_rfl) (by kernel_rfl) (by simp [Tryz.f65]) ?_;simp -implicitDefEqProofs only [go_sem, Int.reduceLT, decide_true, Nat.reduceAdd, reduceCtorEq, ↓reduceIte];exact xJ_ (v := .d (.sl []) true) (b := true) (is := []) (by simp -implicitDefEqProofs only [go_sem, ↓reduceIte, Tryz.f65] <;> rfl) rfl rfl (fun h => by cases h)
theorem yn_ (xs : List GGrant) (hn : xs.length ≤ 4294967296) : PureOK Tryz.prog 32 [.sl (xs.map eGGrant)] (.sl ((tOgt.ofL xs).map eGGrant)) true := by
 refine wZ_ (tab := tab) qo_ fol Tryz.func32 rfl (by kernel_rfl) (by kernel_rfl) (by simp [Tryz.f32]) ?_;simp -implicitDefEqProofs only [go_sem, Nat.reduceAdd, reduceCtorEq, ↓reduceIte];by_cases h0 : 0 < xs.length
 ·refine qz_ ((dS_ xs h0 hn).mono ?_)
  rintro v hp2 nx2 ⟨rfl, rfl, rfl⟩;simp -implicitDefEqProofs only [go_sem, Nat.reduceAdd, ↓reduceIte];refine qz_ ((hF_ xs h0 hn (by simp -implicitDefEqProofs only [go_sem, ↓reduceIte] <;> rfl)).mono ?_);rintro v hp2 nx2 ⟨rfl, rfl, ys, h1, h2, rfl⟩;simp -implicitDefEqProofs only [go_sem, Nat.reduceEqDiff, Nat.reduceAdd, ↓reduceIte];rw [← h1];have h0' : 0 < ys.length := by omega
  refine qz_ ((hG_ ys h0' (by omega) (by simp -implicitDefEqProofs only [go_sem, ↓reduceIte] <;> rfl)).mono ?_);rintro v hp2 nx2 ⟨rfl, rfl⟩;rw [h2];simp -implicitDefEqProofs only [go_sem, Nat.reduceAdd, ↓reduceIte]
  exact xJ_ (v := .so 7 2 0 (tOgt.ofL xs).length) (b := false) (is := [7]) (by simp -implicitDefEqProofs only [go_sem, ↓reduceIte, Tryz.f32] <;> rfl) (by simp -implicitDefEqProofs only [go_sem, ↓reduceIte] <;> rfl) rfl (fun _ => rfl)
 ·have e : xs = [] := List.eq_nil_of_length_eq_zero (by omega)
  subst e;refine j1_ (by simp -implicitDefEqProofs only [go_sem] <;> rfl) nD_ (.inr rfl) ?_;simp -implicitDefEqProofs only [go_sem, Nat.reduceAdd, ↓reduceIte];refine qz_ (sort0_ingt.mono ?_);rintro v hp2 nx2 ⟨rfl, rfl, rfl⟩;simp -implicitDefEqProofs only [go_sem, Nat.reduceEqDiff, Nat.reduceAdd, ↓reduceIte];refine j1_ (by simp -implicitDefEqProofs only [go_sem] <;> rfl) rf_ (.inl rfl) ?_
  simp -implicitDefEqProofs only [go_sem, Nat.reduceAdd, ↓reduceIte];exact xJ_ (v := .d (.sl []) false) (b := false) (is := []) (by simp -implicitDefEqProofs only [go_sem, ↓reduceIte, Tryz.f32] <;> rfl) rfl rfl (fun _ => rfl)
def vS_ (_n : Nat) (xs : List GGrant) : Option (List GGrant) := if xs.length ≤ 4294967296 then some (tOgt.ofL xs) else none
theorem uK_ {n : Nat} {xs r : List GGrant} (h : vS_ n xs = some r) : PureOK Tryz.prog 32 [D.sl (List.map eGGrant xs)] (D.sl (List.map eGGrant r)) true := by
 unfold vS_ at h;split at h
 ·rename_i hn
  obtain rfl := Option.some.inj h;exact yn_ xs hn
 ·cases h
end Go.Proofs.YtkkhgdmmbhpckaaGreat.Ab
