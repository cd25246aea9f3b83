/-
 slices.SortFunc by entail/norm.sessions$1.
-/
import Derived.Test.YtkkhgdmmbhpckaaGreatSod
namespace Go.Proofs
open Go.Shelf Go.RowKit Go.Sort
def Tryz.sortFuncGSession_ren : Go.Shelf.Ren := ⟨fun | 6 => 69 | 15 => 80 | 14 => 88 | 28 => 102 | 29 => 103 | 20 => 130 | 21 => 131 | 22 => 132 | 23 => 133 | 24 => 134 | 25 => 135 | 26 => 136 | 27 => 137 | 46 => 153 | 47 => 140 | 48 => 141 | 49 => 154 | 50 => 155 | 57 => 160 | n => n, fun | 22 => 27 | 24 => 62 | 25 => 100 | 3 => 3 | 39 => 33 | 0 => 0 | 53 => 130 | 55 => 132 | 4 => 4 | 46 => 122 | 45 => 121 | 50 => 127 | 5 => 5 | 9 => 9 | 66 => 154 | 70 => 158 | 76 => 168 | 77 => 169 | n => n, fun | n => n⟩
theorem Tryz.sortFuncGSession : Go.Proofs.SlLaysF0.n6 Tryz.prog Tryz.sortFuncGSession_ren := {
 mixed := by kernel_rfl
 f6 := ⟨Tryz.f69.name, by decide, Tryz.func69.trans (congrArg some (by kernel_rfl))⟩
 f14 := ⟨Tryz.f88.name, by decide, Tryz.func88.trans (congrArg some (by kernel_rfl))⟩
 f15 := Tryz.func80.trans (congrArg some (by kernel_rfl))
 f20 := ⟨Tryz.f130.name, by decide, Tryz.func130.trans (congrArg some (by kernel_rfl))⟩
 f21 := ⟨Tryz.f131.name, by decide, Tryz.func131.trans (congrArg some (by kernel_rfl))⟩
 f22 := ⟨Tryz.f132.name, by decide, Tryz.func132.trans (congrArg some (by kernel_rfl))⟩
 f23 := ⟨Tryz.f133.name, by decide, Tryz.func133.trans (congrArg some (by kernel_rfl))⟩
 f24 := ⟨Tryz.f134.name, by decide, Tryz.func134.trans (congrArg some (by kernel_rfl))⟩
 f25 := ⟨Tryz.f135.name, by decide, Tryz.func135.trans (congrArg some (by kernel_rfl))⟩
 f26 := ⟨Tryz.f136.name, by decide, Tryz.func136.trans (congrArg some (by kernel_rfl))⟩
 f27 := ⟨Tryz.f137.name, by decide, Tryz.func137.trans (congrArg some (by kernel_rfl))⟩
 f28 := Tryz.func102.trans (congrArg some (by kernel_rfl))
 f29 := Tryz.func103.trans (congrArg some (by kernel_rfl))
 f46 := ⟨Tryz.f153.name, by decide, Tryz.func153.trans (congrArg some (by kernel_rfl))⟩
 f47 := Tryz.func140.trans (congrArg some (by kernel_rfl))
 f48 := Tryz.func141.trans (congrArg some (by kernel_rfl))
 f49 := ⟨Tryz.f154.name, by decide, Tryz.func154.trans (congrArg some (by kernel_rfl))⟩
 f50 := ⟨Tryz.f155.name, by decide, Tryz.func155.trans (congrArg some (by kernel_rfl))⟩
 f57 := ⟨Tryz.f160.name, by decide, Tryz.func160.trans (congrArg some (by kernel_rfl))⟩
 t0 := Tryz.underlying0
 a0 := Tryz.isAgg0
 z0 := Tryz.sizeOf0
 v0 := Tryz.zeroValue0
 t3 := Tryz.underlying3
 a3 := Tryz.isAgg3
 z3 := Tryz.sizeOf3
 v3 := Tryz.zeroValue3
 t4 := Tryz.underlying4
 a4 := Tryz.isAgg4
 z4 := Tryz.sizeOf4
 v4 := Tryz.zeroValue4
 t5 := Tryz.underlying5
 a5 := Tryz.isAgg5
 z5 := Tryz.sizeOf5
 v5 := Tryz.zeroValue5
 t9 := Tryz.underlying9
 a9 := Tryz.isAgg9
 z9 := Tryz.sizeOf9
 v9 := Tryz.zeroValue9
 t22 := Tryz.underlying27
 a22 := Tryz.isAgg27
 z22 := Tryz.sizeOf27
 v22 := Tryz.zeroValue27
 t25 := Tryz.underlying100
 a25 := Tryz.isAgg100
 z25 := Tryz.sizeOf100
 v25 := Tryz.zeroValue100
 t39 := Tryz.underlying33
 a39 := Tryz.isAgg33
 z39 := Tryz.sizeOf33
 v39 := Tryz.zeroValue33
 t45 := Tryz.underlying121
 a45 := Tryz.isAgg121
 z45 := Tryz.sizeOf121
 v45 := Tryz.zeroValue121
 t46 := Tryz.underlying122
 a46 := Tryz.isAgg122
 z46 := Tryz.sizeOf122
 v46 := Tryz.zeroValue122
 t50 := Tryz.underlying127
 a50 := Tryz.isAgg127
 z50 := Tryz.sizeOf127
 v50 := Tryz.zeroValue127
 t53 := Tryz.underlying130
 a53 := Tryz.isAgg130
 z53 := Tryz.sizeOf130
 v53 := Tryz.zeroValue130
 t55 := Tryz.underlying132
 a55 := Tryz.isAgg132
 z55 := Tryz.sizeOf132
 v55 := Tryz.zeroValue132
 t66 := Tryz.underlying154
 a66 := Tryz.isAgg154
 z66 := Tryz.sizeOf154
 v66 := Tryz.zeroValue154
 t70 := Tryz.underlying158
 a70 := Tryz.isAgg158
 z70 := Tryz.sizeOf158
 v70 := Tryz.zeroValue158
 t76 := Tryz.underlying168
 a76 := Tryz.isAgg168
 z76 := Tryz.sizeOf168
 v76 := Tryz.zeroValue168
 t77 := Tryz.underlying169
 a77 := Tryz.isAgg169
 z77 := Tryz.sizeOf169
 v77 := Tryz.zeroValue169 }
end Go.Proofs
namespace Go.Proofs.YtkkhgdmmbhpckaaGreat.Ab
open Go.Shelf Go.RowKit Go.Sort
def cfSe : GSession → GSession → Int := lex (fun x y => cmS x.name y.name) (lex (fun x y => cmS x.user y.user) (fun x y => cmL x.roles y.roles))
theorem pre_Se : Pre cfSe := (pre_cmS fun x : GSession => x.name).lex ((pre_cmS fun x : GSession => x.user).lex (pre_cmL fun x : GSession => x.roles))
theorem nG_ (x y : GSession) (h : cfSe x y = 0) : x = y := by
 obtain ⟨h1, h2⟩ := vR_ h;obtain ⟨h2, h3⟩ := vR_ h2;obtain ⟨a, b, c⟩ := x;obtain ⟨a', b', c'⟩ := y;obtain rfl := (jz_ a a').1 h1;obtain rfl := (jz_ b b').1 h2;obtain rfl := yF_ h3;rfl
theorem hL_ (x y : GSession) (hx : x.roles.length < 4611686018427387904) (_hy : y.roles.length < 4611686018427387904) : PureOK Tryz.prog 70 [.ag (eGSession x), .ag (eGSession y)] (.v (.int .i64 (cfSe x y))) true := wL_ (n := x.roles.length + 100) (by
 unfold zt_;rw [show qA_ (x.roles.length + 100) x.name y.name = some (cmS x.name y.name) from rfl, Option.bind_some, show qA_ (x.roles.length + 100) x.user y.user = some (cmS x.user y.user) from rfl, Option.bind_some, di_ x.roles y.roles (by omega) hx, Option.bind_some, f3_ (by omega)];rfl)
def xA_ (_n : Nat) (xs : List GSession) : Option (List GSession) := if decide (0 < xs.length) && (decide (xs.length ≤ 4294967296) && xs.all fun x => decide (x.roles.length < 4611686018427387904)) then some (srtC cfSe xs) else none
theorem yo_ {n : Nat} {xs l : List GSession} (h : xA_ n xs = some l) : xs.length = l.length := by
 unfold xA_ at h;split at h
 ·cases h
  exact (List.mergeSort_perm xs _).length_eq.symm
 ·cases h
theorem f2_ : zM_ Tryz.prog 69 := ⟨_, Tryz.func69, by kernel_rfl, by kernel_rfl⟩
theorem uv_ {n : Nat} {xs l : List GSession} (h : xA_ n xs = some l) {id ver : Nat} {br : Bool} {hp : Hp} {nx : Nat} (hi : hp id = some (.rw (xs.map eGSession) 3 ver br false)) :
  InlOK Tryz.prog 69 [.so id ver 0 xs.length, .fn 70 []] hp nx fun v hp2 nx2 => v = .tu [] ∧ hp2 = upd id (some (.rw (l.map eGSession) 3 ver br false)) hp ∧ nx2 = nx := by
 unfold xA_ at h;split at h
 ·rename_i hc
  simp only [Bool.and_eq_true, decide_eq_true_eq, List.all_eq_true] at hc;obtain ⟨h2, h3, h4⟩ := hc;cases h
  have h := b8_ (encD := eGSession) (k := 3) (br := br) (nx := nx) Tryz.sortFuncGSession (fun w => by kernel_rfl) (fun w => by kernel_rfl) (fun _ => rfl) cfSe pre_Se (fun x => x.roles.length < 4611686018427387904) rfl f2_ (enters_of Tryz.func70 (by kernel_rfl) rfl) hL_ xs h4 (by rintro rfl; simp at h2) (by omega) hi;refine h.mono ?_;rintro v hp2 nx2 ⟨rfl, rfl, ys, k1, k2, k3⟩
  rw [fY_ pre_Se nG_ k1 k2] at k3;exact ⟨rfl, k3, rfl⟩
 ·cases h
theorem uO_ {hp : Hp} {nx : Nat} : InlOK Tryz.prog 69 [.v (.slice none 0 0), .fn 70 []] hp nx fun v hp2 nx2 => v = .tu [] ∧ hp2 = hp ∧ nx2 = nx := by
 refine ⟨f2_, fun g c args hhp hkn hr hsz hargs => ?_⟩;obtain ⟨u0, a0, b0⟩ := hargs 0 _ rfl;obtain ⟨u1, a1, b1⟩ := hargs 1 _ rfl;have e0 : ∃ a k, u0 = .slice a 0 k := by
  cases (show RA g c (.v (.slice none 0 0)) u0 from b0);exact ⟨none, 0, rfl⟩
 obtain ⟨a, k, rfl⟩ := e0;have hu1 : u1 = .func (.func 70) #[] #[] := by
  cases (show RA g c (.fn 70 []) u1 from b1) with
  | fn _ _ us n hn' _ =>
   simp only [List.length_nil] at hn';subst hn';rfl
 subst hu1;have hargs2 : args = #[.slice a 0 k, .func (.func 70) #[] #[]] := by
  have hsz2 : args.size = 2 := by simpa using hsz
  apply Array.ext
  ·simpa using hsz2
  ·intro j h1 h2
   have hj : j = 0 ∨ j = 1 := by omega
   rcases hj with rfl | rfl
   ·simpa [h1] using a0
   ·simpa [h1] using a1
 subst hargs2;have hcon := AnyF.slices_SortFunc_none Tryz.sortFuncGSession a k (.func (.func 70) #[] #[]) c.w;change Calls Tryz.prog 69 _ _ _ at hcon;refine hcon.mono ?_;rintro e w' ⟨rfl, rfl⟩;exact ⟨.tuple #[], .tu [], c, nx, rfl, ⟨rfl, hhp, rfl⟩, rfl, Ext.refl c, hr, ⟨#[], rfl, rfl, fun j x e => by simp at e⟩, Nat.le_refl _, fun i h => .inl h⟩
end Go.Proofs.YtkkhgdmmbhpckaaGreat.Ab
