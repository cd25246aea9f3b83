/-
 Sorting by a comparison, so that equals stay: few.
-/
import Derived.Test.YtjkdbakgnnhdnaaGreatSk7
namespace Go.Proofs.YtjkdbakgnnhdnaaGreat.Ab
open Go.RowKit
def ltC {α : Type} (cf : α → α → Int) (x y : α) : Bool := decide (cf x y < 0)
def insIn {α : Type} (lt : α → α → Bool) : Nat → List α → Nat → Nat → Option (List α)
 | 0, _, _, _ => none
 | _ + 1, xs, _, 0 => some xs
 | f + 1, xs, a, j + 1 => if a < j + 1 then (xs[j + 1]?).bind fun x => (xs[j]?).bind fun y => if lt x y then insIn lt f ((xs.set (j + 1) y).set j x) a j else some xs else some xs
def insOut {α : Type} (lt : α → α → Bool) : Nat → List α → Nat → Nat → Nat → Option (List α)
 | 0, _, _, _, _ => none
 | f + 1, xs, a, i, b => if i < b then (insIn lt (f + 1) xs a i).bind fun ys => insOut lt f ys a (i + 1) b else some xs
theorem insIn_len {α : Type} {lt : α → α → Bool} {a : Nat} : ∀ {f : Nat} {xs ys : List α} {j : Nat}, insIn lt f xs a j = some ys → ys.length = xs.length
 | 0, _, _, _, h => by cases h
 | _ + 1, xs, _, 0, h => by cases h; rfl
 | f + 1, xs, ys, j + 1, h => by
  unfold insIn at h
  split at h
  ·obtain ⟨x, h1, h⟩ := zbi h
   obtain ⟨y, h2, h⟩ := zbi h
   split at h
   ·rw [insIn_len h]
    simp
   ·cases h
    rfl
  ·cases h
   rfl
theorem mem_swp {α : Type} {xs : List α} {i j : Nat} {x y z : α} (h1 : xs[i]? = some x) (h2 : xs[j]? = some y) (h : z ∈ (xs.set i y).set j x) : z ∈ xs := by
 rcases List.mem_or_eq_of_mem_set h with h | h
 ·rcases List.mem_or_eq_of_mem_set h with h | h
  ·exact h
  ·rw [h]
   exact List.mem_of_getElem? h2
 ·rw [h]
  exact List.mem_of_getElem? h1
abbrev rowA (xs : List GRef) (ver : Nat) (br : Bool) : Option AO := some (.rw (xs.map eGRef) 3 ver br false)
theorem w64 {n : Nat} (h : n < 4611686018427387904) : IntKind.i64.wrap (n : Int) = (n : Int) := IntWalk.i64_in _ (by omega)
theorem w64s {n : Nat} (h : n < 4611686018427387904) : IntKind.i64.wrap (((n + 1 : Nat) : Int) - 1) = (n : Int) := by
 rw [show (((n + 1 : Nat) : Int) - 1) = (n : Int) by omega]
 exact w64 h
theorem w64a {n : Nat} (h : n + 1 < 4611686018427387904) : IntKind.i64.wrap ((n : Int) + 1) = ((n + 1 : Nat) : Int) := by
 rw [show (n : Int) + 1 = ((n + 1 : Nat) : Int) by omega]
 exact w64 h
theorem wkH {n nx : Nat} {fr fr' : Fr} {hp hp' : Hp} (e : hp' = hp) (h : ∀ t, fr' t = .un ∨ fr' t = fr t) : WeakR n ⟨fr', hp', nx⟩ ⟨fr, hp, nx⟩ := by
 subst e
 exact wkI h
section
variable {g : FuncId} {caps : List AV} {S : GRef → Prop} {cf : GRef → GRef → Int} {ids : List Nat} {hp0 : Hp} {br : Bool} {i ver L : Nat}
set_option maxRecDepth 4000 in
theorem ins_ok (hc : CmpS Tryz.prog g caps (fun r : GRef => .d (.ag (eGRef r)) br) S cf ids hp0) (hi : i ∉ ids) {xs R : List GRef} {f a b nx : Nat} {hp : Hp} (hh : ∀ j ∈ ids, hp j = hp0 j) (hx : hp i = rowA xs ver br) (hS : ∀ x ∈ xs, S x) (hL : xs.length = L) (ha : a < 4611686018427387904 - 1) (hb : b < 4611686018427387904)
  (hR : insOut (ltC cf) f xs a (a + 1) b = some R) :
  InlOK Tryz.prog 86 [.so i ver 0 L, .v (.int .i64 (a : Int)), .v (.int .i64 (b : Int)), .fn g caps] hp nx fun v hp2 nx2 => v = .tu [] ∧ hp2 = upd i (rowA R ver br) hp ∧ nx ≤ nx2 := by
 refine inl_runR tab_ok Tryz.func86 (by rfl) (by kernel_rfl) (by kernel_rfl) (by exact Nat.le_of_ble_eq_true rfl) ?_
 refine zsq (ZT 1 ?_)
 refine Z1 (w64a (show a + 1 < _ by omega)) ?_
 refine zbk ?_
 refine zlp (α := { x : Nat × List GRef × Nat × Nat // nx ≤ x.2.2.1 ∧ (∀ y ∈ x.2.1, S y) ∧ x.2.1.length = L ∧ insOut (ltC cf) x.2.2.2 x.2.1 a x.1 b = some R })
  (fun x => ⟨upd 0 (.so i ver 0 L) (upd 1 (.v (.int .i64 (a : Int))) (upd 2 (.v (.int .i64 (b : Int))) (upd 3 (.fn g caps) (upd 8 (.v (.int .i64 (x.1.1 : Int))) noFr)))), upd i (rowA x.1.2.1 ver br) hp, x.1.2.2.1⟩) (fun x => x.1.2.2.2) ⟨(a + 1, xs, nx + 3, f), by show nx ≤ nx + 3; omega, hS, hL, hR⟩ ?_ ?_
 ·rw [upd_self hx]
  exact wkI (wk_upd rfl (wk_upd rfl (wk_upd rfl (wk_upd rfl (wk_upd rfl (wk_no _))))))
 ·rintro ⟨⟨k, ys, nx1, f⟩, h1, h2, h3, h4⟩
  dsimp only at h1 h2 h3 h4
  obtain ⟨f, rfl⟩ : ∃ f', f = f' + 1 := by
   cases f with
   | zero => cases h4
   | succ f => exact ⟨f, rfl⟩
  unfold insOut at h4
  refine zsq (zsq ?_)
  refine ZT 1 ?_
  by_cases hk : k < b
  ·rw [if_pos hk] at h4
   obtain ⟨zs, h4, h5⟩ := zbi h4
   have c1 : (decide ((k : Int) < (b : Int))) = true := decide_eq_true (by omega)
   refine Z1 c1 ?_
   refine ZT 1 ?_
   refine Z0 ?_
   refine zsq (zbk ?_)
   refine zsq (ZT 1 ?_)
   refine Z0 ?_
   refine zbk ?_
   refine zlp (α := { x : Nat × List GRef × Nat × Nat // nx ≤ x.2.2.1 ∧ x.1 < b ∧ (∀ y ∈ x.2.1, S y) ∧ x.2.1.length = L ∧ insIn (ltC cf) x.2.2.2 x.2.1 a x.1 = some zs })
    (fun x => ⟨upd 0 (.so i ver 0 L) (upd 1 (.v (.int .i64 (a : Int))) (upd 2 (.v (.int .i64 (b : Int))) (upd 3 (.fn g caps) (upd 8 (.v (.int .i64 (k : Int))) (upd 9 (.v (.int .i64 (x.1.1 : Int))) noFr))))), upd i (rowA x.1.2.1 ver br) hp, x.1.2.2.1⟩) (fun x => x.1.2.2.2) ⟨(k, ys, nx1 + 3 + 2, f + 1), by show nx ≤ nx1 + 3 + 2; omega, hk, h2, h3, h4⟩ ?_ ?_
   ·exact wkI (wk_upd rfl (wk_upd rfl (wk_upd rfl (wk_upd rfl (wk_upd rfl (wk_upd rfl (wk_no _)))))))
   ·rintro ⟨⟨j, us, nx2, f2⟩, g1, g0, g2, g3, g4⟩
    dsimp only at g0 g1 g2 g3 g4
    obtain ⟨f2, rfl⟩ : ∃ f', f2 = f' + 1 := by
     cases f2 with
     | zero => cases g4
     | succ f => exact ⟨f, rfl⟩
    refine zsq (zsq ?_)
    refine ZT 1 ?_
    rcases j with _ | j
    ·have c2 : (decide (((0 : Nat) : Int) > (a : Int))) = false := decide_eq_false (by omega)
     have c3 : (decide ((a : Int) < 0)) = false := decide_eq_false (by omega)
     cases g4
     refine Z1 (And.intro c2 c3) ?_
     refine Rd_endF (by rfl) ?_
     refine Z0 ?_
     refine ZT 1 ?_
     refine Z0 ?_
     refine ZT 1 ?_
     refine Z1 (w64a (show k + 1 < _ by omega)) ?_
     refine ⟨⟨(k + 1, zs, _, f), ?_, g2, g3, h5⟩, wkI (wk_upd rfl (wk_upd rfl (wk_upd rfl (wk_upd rfl (wk_upd rfl (wk_no _)))))), Nat.lt_succ_self f⟩
     show nx ≤ nx2 + 17 + 3
     omega
    ·by_cases hj : a < j + 1
     ·have c2 : (decide (((j + 1 : Nat) : Int) > (a : Int))) = true := decide_eq_true (by omega)
      have c3 : (decide ((a : Int) < ((j + 1 : Nat) : Int))) = true := decide_eq_true (by omega)
      unfold insIn at g4
      rw [if_pos hj] at g4
      obtain ⟨x, e1, g4⟩ := zbi g4
      obtain ⟨y, e2, g4⟩ := zbi g4
      have l1 : (j + 1 < L) = True := eq_true (by have := (List.getElem?_eq_some_iff.1 e1).1; omega)
      have l2 : (j < L) = True := eq_true (by have := (List.getElem?_eq_some_iff.1 e2).1; omega)
      have w := And.intro c2 (And.intro c3 (And.intro l1 (And.intro l2 (And.intro (w64s (show j < 4611686018427387904 by omega)) (And.intro (map_at eGRef e1) (map_at eGRef e2))))))
      refine Z1 w ?_
      obtain ⟨nx3, q1, q2⟩ := hc x y (g2 x (List.mem_of_getElem? e1)) (g2 y (List.mem_of_getElem? e2)) (nx2 + 17)
      refine onCallD_one (δ := []) (q2 _ (upd_agree hh hi)) ?_
      refine Z0 ?_
      refine Rd_endF (by rfl) ?_
      refine Z0 ?_
      refine ZT 1 ?_
      rcases hlt : ltC cf x y with _ | _
      ·rw [hlt] at g4
       cases g4
       have c4 : (decide (cf x y < 0)) = false := hlt
       refine Z1 c4 ?_
       refine ZT 1 ?_
       refine Z1 (w64a (show k + 1 < _ by omega)) ?_
       refine ⟨⟨(k + 1, zs, _, f), ?_, g2, g3, h5⟩, wkI (wk_upd rfl (wk_upd rfl (wk_upd rfl (wk_upd rfl (wk_upd rfl (wk_no _)))))), Nat.lt_succ_self f⟩
       show nx ≤ nx3 + 3
       omega
      ·rw [hlt, if_pos rfl] at g4
       have c4 : (decide (cf x y < 0)) = true := hlt
       refine Z1 c4 ?_
       refine zsq (zbk ?_)
       refine ZT 1 ?_
       have e3 : ((us.map eGRef).set (j + 1) (eGRef y))[j]? = some (eGRef y) := by
        rw [List.getElem?_set_ne (by omega)]
        exact map_at eGRef e2
       refine Z1 (And.intro w e3) ?_
       refine Rd_endF (by rfl) ?_
       refine Z0 ?_
       refine ZT 1 ?_
       refine Z1 (w64s (show j < 4611686018427387904 by omega)) ?_
       refine ⟨⟨(j, (us.set (j + 1) y).set j x, _, f2), ?_, by show j < b; omega, fun z hz => g2 z (mem_swp e1 e2 hz), by simpa using g3, g4⟩, wkH ?_ (wk_upd rfl (wk_upd rfl (wk_upd rfl (wk_upd rfl (wk_upd rfl (wk_upd rfl (wk_no _))))))), Nat.lt_succ_self f2⟩
       ·show nx ≤ nx3 + 18 + 3
        omega
       ·rw [upd_upd, upd_upd]
        show upd i (some (.rw (((us.set (j + 1) y).set j x).map eGRef) 3 ver br false)) hp = _
        rw [List.map_set, List.map_set]
     ·have c2 : (decide (((j + 1 : Nat) : Int) > (a : Int))) = false := decide_eq_false (by omega)
      have c3 : (decide ((a : Int) < ((j + 1 : Nat) : Int))) = false := decide_eq_false (by omega)
      unfold insIn at g4
      rw [if_neg hj] at g4
      cases g4
      refine Z1 (And.intro c2 c3) ?_
      refine Rd_endF (by rfl) ?_
      refine Z0 ?_
      refine ZT 1 ?_
      refine Z0 ?_
      refine ZT 1 ?_
      refine Z1 (w64a (show k + 1 < _ by omega)) ?_
      refine ⟨⟨(k + 1, zs, _, f), ?_, g2, g3, h5⟩, wkI (wk_upd rfl (wk_upd rfl (wk_upd rfl (wk_upd rfl (wk_upd rfl (wk_no _)))))), Nat.lt_succ_self f⟩
      show nx ≤ nx2 + 17 + 3
      omega
  ·rw [if_neg hk] at h4
   cases h4
   have c1 : (decide ((k : Int) < (b : Int))) = false := decide_eq_false (by omega)
   refine Z1 c1 ?_
   refine ZT 1 ?_
   refine Z0 ?_
   exact ⟨_, _, rfl, ⟨fun _ => .inr rfl⟩, rfl, rfl, by show nx ≤ nx1 + 3; omega⟩
end
end Go.Proofs.YtjkdbakgnnhdnaaGreat.Ab
namespace Go.Proofs.YtjkdbakgnnhdnaaGreat.Ab
open Go.RowKit
section
variable {g : FuncId} {caps : List AV} {S : GRef → Prop} {cf : GRef → GRef → Int} {ids : List Nat} {hp0 : Hp} {br : Bool} {i ver L : Nat}
set_option maxRecDepth 4000 in
theorem stb_few (hc : CmpS Tryz.prog g caps (fun r : GRef => .d (.ag (eGRef r)) br) S cf ids hp0) (hi : i ∉ ids) {xs R : List GRef} {f nx : Nat} {hp : Hp} (hh : ∀ j ∈ ids, hp j = hp0 j) (hx : hp i = rowA xs ver br) (hS : ∀ x ∈ xs, S x) (hL : xs.length = L) (h20 : L < 20)
  (hR : insOut (ltC cf) f xs 0 1 L = some R) :
  InlOK Tryz.prog 60 [.so i ver 0 L, .v (.int .i64 (L : Int)), .fn g caps] hp nx fun v hp2 nx2 => v = .tu [] ∧ hp2 = upd i (rowA R ver br) hp ∧ nx ≤ nx2 := by
 refine inl_runR tab_ok Tryz.func60 (by rfl) (by kernel_rfl) (by kernel_rfl) (by exact Nat.le_of_ble_eq_true rfl) ?_
 refine zsq (ZT 1 ?_)
 refine Z0 ?_
 refine zsq (ZT 1 ?_)
 refine Z0 ?_
 refine zsq (zbk ?_)
 have c1 : (decide ((20 : Int) ≤ (L : Int))) = false := decide_eq_false (by omega)
 have c2 : (decide ((20 : Int) < (L : Int))) = false := decide_eq_false (by omega)
 refine zlp (α := Unit) (fun _ => ⟨upd 0 (.so i ver 0 L) (upd 1 (.v (.int .i64 (L : Int))) (upd 2 (.fn g caps) (upd 6 (.v (.int .i64 20)) (upd 7 (.v (.int .i64 0)) (upd 8 (.v (.int .i64 20)) noFr))))), hp, nx + 1 + 3⟩) (fun _ => 0) () ?_ ?_
 ·exact wkI (wk_upd rfl (wk_upd rfl (wk_upd rfl (wk_upd rfl (wk_upd rfl (wk_upd rfl (wk_no _)))))))
 ·rintro _
  refine zsq (zsq ?_)
  refine ZT 1 ?_
  refine Z1 c1 ?_
  refine ZT 1 ?_
  refine Z0 ?_
  refine zsq (ZT 1 ?_)
  refine Z0 ?_
  refine onCall_inl (InlOK.mono (ins_ok (a := 0) (b := L) hc hi hh hx hS hL (by omega) (by omega) hR) fun v hp2 nx2 h => ?_)
  obtain ⟨rfl, rfl, h⟩ := h
  have h : nx + 1 + 3 + 3 + 5 ≤ nx2 := h
  refine Z0 ?_
  refine zbk ?_
  refine zlp (α := Unit) (fun _ => ⟨upd 1 (.v (.int .i64 (L : Int))) (upd 6 (.v (.int .i64 20)) noFr), upd i (rowA R ver br) hp, nx2⟩) (fun _ => 0) () ?_ ?_
  ·exact wkI (wk_upd rfl (wk_upd rfl (wk_no _)))
  ·rintro _
   refine zsq (zsq ?_)
   refine ZT 1 ?_
   refine Z1 c2 ?_
   refine ZT 1 ?_
   refine Z0 ?_
   exact ⟨_, _, rfl, ⟨fun _ => .inr rfl⟩, rfl, rfl, by show nx ≤ nx2 + 3; omega⟩
theorem sst_few (hc : CmpS Tryz.prog g caps (fun r : GRef => .d (.ag (eGRef r)) br) S cf ids hp0) (hi : i ∉ ids) {xs R : List GRef} {f nx : Nat} {hp : Hp} (hh : ∀ j ∈ ids, hp j = hp0 j) (hx : hp i = rowA xs ver br) (hS : ∀ x ∈ xs, S x) (hL : xs.length = L) (h20 : L < 20)
  (hR : insOut (ltC cf) f xs 0 1 L = some R) :
  InlOK Tryz.prog 43 [.so i ver 0 L, .fn g caps] hp nx fun v hp2 nx2 => v = .tu [] ∧ hp2 = upd i (rowA R ver br) hp ∧ nx ≤ nx2 := by
 refine inl_run tab_ok fol Tryz.func43 (by rfl) (by kernel_rfl) (by kernel_rfl) (by exact Nat.le_of_ble_eq_true rfl) ?_
 refine Z0 ?_
 refine onCall_inl (InlOK.mono (stb_few hc hi hh hx hS hL h20 hR) fun v hp2 nx2 h => ?_)
 obtain ⟨rfl, rfl, h⟩ := h
 have h : nx + 5 ≤ nx2 := h
 refine Z0 ?_
 exact ⟨_, _, rfl, ⟨fun _ => .inr rfl⟩, rfl, rfl, by show nx ≤ nx2; omega⟩
end
end Go.Proofs.YtjkdbakgnnhdnaaGreat.Ab
