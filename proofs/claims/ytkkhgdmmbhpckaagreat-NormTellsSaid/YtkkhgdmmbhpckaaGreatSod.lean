/-
 slices.SortFunc by entail/norm.compareSods.
-/
import Derived.Test.YtkkhgdmmbhpckaaGreatNda
import Derived.Test.YtkkhgdmmbhpckaaGreatPre
import Derived.Test.YtkkhgdmmbhpckaaGreatRpp
namespace Go.Proofs
open Go.Shelf Go.RowKit Go.Sort
def Tryz.sortFuncGSod_ren : Go.Shelf.Ren := ⟨fun | 6 => 66 | 15 => 80 | 14 => 86 | 28 => 102 | 29 => 103 | 20 => 121 | 21 => 122 | 22 => 123 | 23 => 124 | 24 => 125 | 25 => 126 | 26 => 127 | 27 => 128 | 46 => 150 | 47 => 140 | 48 => 141 | 49 => 151 | 50 => 152 | 57 => 159 | n => n, fun | 22 => 26 | 24 => 60 | 25 => 96 | 3 => 3 | 39 => 33 | 0 => 0 | 53 => 130 | 55 => 132 | 4 => 4 | 46 => 122 | 45 => 121 | 50 => 127 | 5 => 5 | 9 => 9 | 66 => 154 | 70 => 158 | 76 => 168 | 77 => 169 | n => n, fun | n => n⟩
theorem Tryz.sortFuncGSod : Go.Proofs.SlLaysF0.n6 Tryz.prog Tryz.sortFuncGSod_ren := {
 mixed := by kernel_rfl
 f6 := ⟨Tryz.f66.name, by decide, Tryz.func66.trans (congrArg some (by kernel_rfl))⟩
 f14 := ⟨Tryz.f86.name, by decide, Tryz.func86.trans (congrArg some (by kernel_rfl))⟩
 f15 := Tryz.func80.trans (congrArg some (by kernel_rfl))
 f20 := ⟨Tryz.f121.name, by decide, Tryz.func121.trans (congrArg some (by kernel_rfl))⟩
 f21 := ⟨Tryz.f122.name, by decide, Tryz.func122.trans (congrArg some (by kernel_rfl))⟩
 f22 := ⟨Tryz.f123.name, by decide, Tryz.func123.trans (congrArg some (by kernel_rfl))⟩
 f23 := ⟨Tryz.f124.name, by decide, Tryz.func124.trans (congrArg some (by kernel_rfl))⟩
 f24 := ⟨Tryz.f125.name, by decide, Tryz.func125.trans (congrArg some (by kernel_rfl))⟩
 f25 := ⟨Tryz.f126.name, by decide, Tryz.func126.trans (congrArg some (by kernel_rfl))⟩
 f26 := ⟨Tryz.f127.name, by decide, Tryz.func127.trans (congrArg some (by kernel_rfl))⟩
 f27 := ⟨Tryz.f128.name, by decide, Tryz.func128.trans (congrArg some (by kernel_rfl))⟩
 f28 := Tryz.func102.trans (congrArg some (by kernel_rfl))
 f29 := Tryz.func103.trans (congrArg some (by kernel_rfl))
 f46 := ⟨Tryz.f150.name, by decide, Tryz.func150.trans (congrArg some (by kernel_rfl))⟩
 f47 := Tryz.func140.trans (congrArg some (by kernel_rfl))
 f48 := Tryz.func141.trans (congrArg some (by kernel_rfl))
 f49 := ⟨Tryz.f151.name, by decide, Tryz.func151.trans (congrArg some (by kernel_rfl))⟩
 f50 := ⟨Tryz.f152.name, by decide, Tryz.func152.trans (congrArg some (by kernel_rfl))⟩
 f57 := ⟨Tryz.f159.name, by decide, Tryz.func159.trans (congrArg some (by kernel_rfl))⟩
 t0 := Tryz.underlying0
 a0 := Tryz.isAgg0
 z0 := Tryz.sizeOf0
 v0 := Tryz.zeroValue0
 t3 := Tryz.underlying3
 a3 := Tryz.isAgg3
 z3 := Tryz.sizeOf3
 v3 := Tryz.zeroValue3
 t4 := Tryz.underlying4
 a4 := Tryz.isAgg4
 z4 := Tryz.sizeOf4
 v4 := Tryz.zeroValue4
 t5 := Tryz.underlying5
 a5 := Tryz.isAgg5
 z5 := Tryz.sizeOf5
 v5 := Tryz.zeroValue5
 t9 := Tryz.underlying9
 a9 := Tryz.isAgg9
 z9 := Tryz.sizeOf9
 v9 := Tryz.zeroValue9
 t22 := Tryz.underlying26
 a22 := Tryz.isAgg26
 z22 := Tryz.sizeOf26
 v22 := Tryz.zeroValue26
 t25 := Tryz.underlying96
 a25 := Tryz.isAgg96
 z25 := Tryz.sizeOf96
 v25 := Tryz.zeroValue96
 t39 := Tryz.underlying33
 a39 := Tryz.isAgg33
 z39 := Tryz.sizeOf33
 v39 := Tryz.zeroValue33
 t45 := Tryz.underlying121
 a45 := Tryz.isAgg121
 z45 := Tryz.sizeOf121
 v45 := Tryz.zeroValue121
 t46 := Tryz.underlying122
 a46 := Tryz.isAgg122
 z46 := Tryz.sizeOf122
 v46 := Tryz.zeroValue122
 t50 := Tryz.underlying127
 a50 := Tryz.isAgg127
 z50 := Tryz.sizeOf127
 v50 := Tryz.zeroValue127
 t53 := Tryz.underlying130
 a53 := Tryz.isAgg130
 z53 := Tryz.sizeOf130
 v53 := Tryz.zeroValue130
 t55 := Tryz.underlying132
 a55 := Tryz.isAgg132
 z55 := Tryz.sizeOf132
 v55 := Tryz.zeroValue132
 t66 := Tryz.underlying154
 a66 := Tryz.isAgg154
 z66 := Tryz.sizeOf154
 v66 := Tryz.zeroValue154
 t70 := Tryz.underlying158
 a70 := Tryz.isAgg158
 z70 := Tryz.sizeOf158
 v70 := Tryz.zeroValue158
 t76 := Tryz.underlying168
 a76 := Tryz.isAgg168
 z76 := Tryz.sizeOf168
 v76 := Tryz.zeroValue168
 t77 := Tryz.underlying169
 a77 := Tryz.isAgg169
 z77 := Tryz.sizeOf169
 v77 := Tryz.zeroValue169 }
end Go.Proofs
namespace Go.Proofs.YtkkhgdmmbhpckaaGreat.Ab
open Go.Shelf Go.RowKit Go.Sort
def cfSd : GSod → GSod → Int := lex (fun x y => cmS x.name y.name) (lex (fun x y => cmI x.n_ y.n_) (fun x y => cmL x.roles y.roles))
theorem pre_Sd : Pre cfSd := (pre_cmS fun x : GSod => x.name).lex ((pre_cmI fun x : GSod => x.n_).lex (pre_cmL fun x : GSod => x.roles))
theorem nH_ (x y : GSod) (h : cfSd x y = 0) : x = y := by
 obtain ⟨h1, h2⟩ := vR_ h;obtain ⟨h2, h3⟩ := vR_ h2;obtain ⟨a, b, c⟩ := x;obtain ⟨a', b', c'⟩ := y;obtain rfl := (jz_ a a').1 h1;obtain rfl := kv_ h2;obtain rfl := yF_ h3;rfl
theorem nI_ (n : Nat) (x y : Int) : zR_ n x y = some (cmI x y) := by
 unfold zR_ wc_ cmI;rw [show (x != x) = false by simp, show (y != y) = false by simp, Option.bind_some, Option.bind_some, if_neg (by decide), if_neg (by decide)];by_cases h : x < y
 ·rw [decide_eq_true h, if_pos rfl, if_pos h]
 ·rw [decide_eq_false h, if_neg (by decide), if_neg h]
  by_cases h2 : y < x
  ·rw [decide_eq_true h2, if_pos rfl, if_pos h2]
  ·rw [decide_eq_false h2, if_neg (by decide), if_neg h2]
theorem nJ_ (n : Nat) (x y : ByteArray) : jC_ n x y = some (if cmS x y < 0 then -1 else if cmS x y = 0 then 0 else 1) := by
 unfold jC_ xf_;rw [Option.bind_some, Option.bind_some, if_neg (by decide), if_neg (by decide)];have h : Op.bytesLess x.toList y.toList = decide (cmS x y < 0) := (gV_ x y).symm;rw [h, beqS];by_cases h1 : cmS x y < 0
 ·rw [decide_eq_true h1, if_pos rfl, if_pos h1]
 ·rw [decide_eq_false h1, if_neg (by decide), if_neg h1, Bool.false_or]
  by_cases h2 : cmS x y = 0
  ·rw [decide_eq_true ((jz_ x y).1 h2), if_pos rfl, if_pos h2]
  ·rw [decide_eq_false (fun e => h2 ((jz_ x y).2 e)), if_neg (by decide), if_neg h2]
theorem cm_one (x y : ByteArray) : (if cmS x y < 0 then (-1 : Int) else if cmS x y = 0 then 0 else 1) = cmS x y := by
 have key : ∀ a b : List UInt8, Lib.compareBytes a b = -1 ∨ Lib.compareBytes a b = 0 ∨ Lib.compareBytes a b = 1 := by
  intro a;induction a with
  | nil => intro b; cases b <;> simp [Lib.compareBytes]
  | cons a la ih =>
   intro b;cases b with
   | nil => simp [Lib.compareBytes]
   | cons b lb =>
    simp only [Lib.compareBytes];split
    ·exact .inl rfl
    ·split
     ·exact .inr (.inr rfl)
     ·exact ih lb
 rcases key x.data.toList y.data.toList with h | h | h <;> (have h : cmS x y = _ := h; rw [h]; rfl)
theorem dh_ {n : Nat} (s t : List ByteArray) (hs : s.length < 4611686018427387904) : ∀ (c j : Nat), j ≤ s.length → j ≤ t.length → s.length - j < c →
  ∃ r, qE_ n s t c (j : Int) = some r ∧ ((r = .inr (cmL (s.drop j) (t.drop j))) ∨ (r = .inl () ∧ cmL (s.drop j) (t.drop j) = if s.length < t.length then -1 else 0))
 | 0, _, _, _, h => by omega
 | c + 1, j, hj, ht, hc => by
  rw [qE_];by_cases h : j < s.length
  ·rw [dlt h, if_pos rfl, idxS h, Option.bind_some, List.drop_eq_getElem_cons h]
   by_cases h2 : j < t.length
   ·rw [decide_eq_false (by omega), if_neg (by decide), idxS h2, Option.bind_some, nJ_, cm_one, Option.bind_some, List.drop_eq_getElem_cons h2]
    unfold cmL;by_cases h3 : cmS s[j] t[j] = 0
    ·obtain ⟨r, k1, k2⟩ := dh_ (n := n) s t hs c (j + 1) (by omega) (by omega) (by omega)
     refine ⟨r, ?_, ?_⟩
     ·rw [h3, show ((0 : Int) != 0) = false from rfl, if_neg (by decide), wr1 (by omega), k1]
     ·rw [if_pos h3]
      exact k2
    ·refine ⟨_, ?_, .inl rfl⟩
     rw [show (cmS s[j] t[j] != 0) = true by simpa using h3, if_pos rfl, if_neg h3]
   ·rw [decide_eq_true (by omega), if_pos rfl, List.drop_eq_nil_of_le (show t.length ≤ j by omega)]
    exact ⟨_, rfl, .inl rfl⟩
  ·rw [dnlt (by omega), if_neg (by decide), List.drop_eq_nil_of_le (show s.length ≤ j by omega)]
   refine ⟨_, rfl, .inr ⟨rfl, ?_⟩⟩;by_cases h2 : j < t.length
   ·rw [List.drop_eq_getElem_cons h2, if_pos (by omega)]
    rfl
   ·rw [List.drop_eq_nil_of_le (by omega), if_neg (by omega)]
    rfl
theorem di_ {n : Nat} (s t : List ByteArray) (hn : s.length < n) (hs : s.length < 4611686018427387904) : qS_ n s t = some (cmL s t) := by
 obtain ⟨r, h1, h2⟩ := dh_ (n := n) s t hs n 0 (Nat.zero_le _) (Nat.zero_le _) (by omega);have h1 : qE_ n s t n 0 = some r := h1;rw [List.drop_zero, List.drop_zero] at h2;unfold qS_;rw [h1, Option.bind_some];rcases h2 with rfl | ⟨rfl, h⟩
 ·rfl
 ·dsimp only
  rw [h];by_cases h3 : s.length < t.length
  ·rw [dlt h3, if_pos rfl, if_pos h3]
  ·rw [dnlt (by omega), if_neg (by decide), if_neg h3]
theorem f3_ {n : Nat} (hn : 10 < n) (a b c : Int) : kc_ n [a, b, c] = some (if a = 0 then (if b = 0 then c else b) else a) := by
 rw [dT_ (by simp) (by simp; omega)];simp only [orI];by_cases h1 : a = 0 <;> by_cases h2 : b = 0 <;> by_cases h3 : c = 0 <;> simp [h1, h2, h3]
theorem hM_ (x y : GSod) (hx : x.roles.length < 4611686018427387904) (_hy : y.roles.length < 4611686018427387904) : PureOK Tryz.prog 67 [.ag (eGSod x), .ag (eGSod y)] (.v (.int .i64 (cfSd x y))) true := wK_ (n := x.roles.length + 100) (by
 unfold zs_;rw [show qA_ (x.roles.length + 100) x.name y.name = some (cmS x.name y.name) from rfl, Option.bind_some, nI_, Option.bind_some, di_ x.roles y.roles (by omega) hx, Option.bind_some, f3_ (by omega)];rfl)
def vT_ (_n : Nat) (xs : List GSod) : Option (List GSod) := if decide (0 < xs.length) && (decide (xs.length ≤ 4294967296) && xs.all fun x => decide (x.roles.length < 4611686018427387904)) then some (srtC cfSd xs) else none
theorem dj_ {n : Nat} {xs l : List GSod} (h : vT_ n xs = some l) : xs.length = l.length := by
 unfold vT_ at h;split at h
 ·cases h
  exact (List.mergeSort_perm xs _).length_eq.symm
 ·cases h
theorem f4_ : zM_ Tryz.prog 66 := ⟨_, Tryz.func66, by kernel_rfl, by kernel_rfl⟩
theorem dV_ {n : Nat} {xs l : List GSod} (h : vT_ n xs = some l) {id ver : Nat} {br : Bool} {hp : Hp} {nx : Nat} (hi : hp id = some (.rw (xs.map eGSod) 3 ver br false)) :
  InlOK Tryz.prog 66 [.so id ver 0 xs.length, .fn 67 []] hp nx fun v hp2 nx2 => v = .tu [] ∧ hp2 = upd id (some (.rw (l.map eGSod) 3 ver br false)) hp ∧ nx2 = nx := by
 unfold vT_ at h;split at h
 ·rename_i hc
  simp only [Bool.and_eq_true, decide_eq_true_eq, List.all_eq_true] at hc;obtain ⟨h2, h3, h4⟩ := hc;cases h
  have h := b8_ (encD := eGSod) (k := 3) (br := br) (nx := nx) Tryz.sortFuncGSod (fun w => by kernel_rfl) (fun w => by kernel_rfl) (fun _ => rfl) cfSd pre_Sd (fun x => x.roles.length < 4611686018427387904) rfl f4_ (enters_of Tryz.func67 (by kernel_rfl) rfl) hM_ xs h4 (by rintro rfl; simp at h2) (by omega) hi;refine h.mono ?_;rintro v hp2 nx2 ⟨rfl, rfl, ys, k1, k2, k3⟩
  rw [fY_ pre_Sd nH_ k1 k2] at k3;exact ⟨rfl, k3, rfl⟩
 ·cases h
theorem hN_ {hp : Hp} {nx : Nat} : InlOK Tryz.prog 66 [.v (.slice none 0 0), .fn 67 []] hp nx fun v hp2 nx2 => v = .tu [] ∧ hp2 = hp ∧ nx2 = nx := by
 refine ⟨f4_, fun g c args hhp hkn hr hsz hargs => ?_⟩;obtain ⟨u0, a0, b0⟩ := hargs 0 _ rfl;obtain ⟨u1, a1, b1⟩ := hargs 1 _ rfl;have e0 : ∃ a k, u0 = .slice a 0 k := by
  cases (show RA g c (.v (.slice none 0 0)) u0 from b0);exact ⟨none, 0, rfl⟩
 obtain ⟨a, k, rfl⟩ := e0;have hu1 : u1 = .func (.func 67) #[] #[] := by
  cases (show RA g c (.fn 67 []) u1 from b1) with
  | fn _ _ us n hn' _ =>
   simp only [List.length_nil] at hn';subst hn';rfl
 subst hu1;have hargs2 : args = #[.slice a 0 k, .func (.func 67) #[] #[]] := by
  have hsz2 : args.size = 2 := by simpa using hsz
  apply Array.ext
  ·simpa using hsz2
  ·intro j h1 h2
   have hj : j = 0 ∨ j = 1 := by omega
   rcases hj with rfl | rfl
   ·simpa [h1] using a0
   ·simpa [h1] using a1
 subst hargs2;have hcon := AnyF.slices_SortFunc_none Tryz.sortFuncGSod a k (.func (.func 67) #[] #[]) c.w;change Calls Tryz.prog 66 _ _ _ at hcon;refine hcon.mono ?_;rintro e w' ⟨rfl, rfl⟩;exact ⟨.tuple #[], .tu [], c, nx, rfl, ⟨rfl, hhp, rfl⟩, rfl, Ext.refl c, hr, ⟨#[], rfl, rfl, fun j x e => by simp at e⟩, Nat.le_refl _, fun i h => .inl h⟩
end Go.Proofs.YtkkhgdmmbhpckaaGreat.Ab
