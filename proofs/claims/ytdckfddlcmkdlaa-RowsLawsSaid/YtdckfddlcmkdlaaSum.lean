/-
  entaillaw3.RowsSum: the walk, call by call, and the counting of sets.
-/
import Derived.Test.YtdckfddlcmkdlaaAwake
namespace Go.Proofs.Ytdckfddlcmkdlaa
open Go.RowKit
namespace Sum
open Cmp TO Rd Rset Tames

theorem ins_len_new {x : Tp} : ∀ {l : List Tp}, x ∉ l → (ins x l).length = l.length + 1
  | [], _ => rfl
  | y :: l, h => by
    have ih := ins_len_new (x := x) (l := l) fun e => h (List.mem_cons_of_mem _ e)
    have hne : x ≠ y := fun e => h (by rw [e]; exact List.mem_cons_self ..)
    simp only [ins]
    by_cases e1 : ltB x y = true
    · rw [if_pos e1]; rfl
    · rw [if_neg e1]
      by_cases e2 : ltB y x = true
      · rw [if_pos e2, List.length_cons, ih, List.length_cons]
      · exact absurd (lt_total (by simpa using e1) (by simpa using e2)) hne
theorem ofL_len_nodup : ∀ {l : List Tp}, l.Nodup → (ofL l).length = l.length
  | [], _ => rfl
  | x :: l, h => by
    obtain ⟨h1, h2⟩ := List.nodup_cons.1 h
    show (ins x (ofL l)).length = _
    rw [ins_len_new (fun e => h1 (mem_ofL.1 e)), ofL_len_nodup h2, List.length_cons]
theorem len_join {a b s : List Tp} (ha : Rises a) (hb : Rises b) (hs : Rises s) (hd : ∀ x, x ∈ a → x ∉ b) (hm : ∀ x, x ∈ s ↔ x ∈ a ∨ x ∈ b) : s.length = a.length + b.length := by
  have h1 : ofL (a ++ b) = s := ofL_eq hs fun x => by rw [hm x, List.mem_append]
  have hn : (a ++ b).Nodup := List.nodup_append.2 ⟨ha.nodup, hb.nodup, fun x hx y hy e => hd x hx (by rw [e]; exact hy)⟩
  rw [← h1, ofL_len_nodup hn, List.length_append]

theorem p_both (X Y : List Tp) : minus X (minus X Y) = minus Y (minus Y X) := (rises_minus _ _).ext (rises_minus _ _) fun x => by
  simp only [mem_minus]
  by_cases h1 : x ∈ X <;> by_cases h2 : x ∈ Y <;> simp [h1, h2]
theorem p_count (X Y : List Tp) (hX : Rises X) (hY : Rises Y) : (ofL (X ++ Y)).length + (minus X (minus X Y)).length = X.length + Y.length := by
  have h1 : (ofL (X ++ Y)).length = X.length + (minus Y X).length := len_join hX (rises_minus _ _) (rises_ofL _) (fun x hx h => (mem_minus.1 h).2 hx) fun x => by
    rw [mem_ofL, List.mem_append, mem_minus]
    by_cases h1 : x ∈ X <;> simp [h1]
  have h2 : Y.length = (minus Y X).length + (minus Y (minus Y X)).length := len_join (rises_minus _ _) (rises_minus _ _) hY (fun x hx h => (mem_minus.1 h).2 hx) fun x => by
    simp only [mem_minus]
    by_cases h1 : x ∈ X <;> by_cases h2 : x ∈ Y <;> simp [h1, h2]
  rw [p_both]
  omega
theorem p_comm (l m : List Tp) : ofL (l ++ m) = ofL (m ++ l) := ofL_congr fun x => by
  rw [List.mem_append, List.mem_append]
  exact Or.comm
theorem p_self (l : List Tp) : ofL (ofL l ++ []) = ofL l := by
  rw [List.append_nil]
  exact ofL_self (rises_ofL l)
theorem p_none (l : List Tp) : minus (ofL l) l = [] := (rises_minus _ _).ext List.Pairwise.nil fun x => by
  rw [mem_minus, mem_ofL]
  simp

theorem same_true (A B : Option Addr) (n c m d : Nat) (xs ys : List Tp) (w : World) (hx : At w A n c xs) (hy : At w B m d ys) (hn : n ≤ 1000000000) (h : xs = ys) :
    Calls Try.prog 17 #[.slice A n c, .slice B m d] w fun e w' => e = .returned (.bool true) ∧ Below w.heap.size w w' :=
  (Same.same_any A B n c m d xs ys w hx hy hn).mono fun e w' ⟨h1, h2⟩ => ⟨by rw [h1, decide_eq_true h], h2⟩
theorem at_le {w : World} {A : Option Addr} {n c k : Nat} {xs : List Tp} (h : At w A n c xs) (hl : xs.length ≤ k) : n ≤ k := by rw [← h.len]; exact hl
theorem at_b {w : World} {A : Option Addr} {n c : Nat} {xs : List Tp} (h : At w A n c xs) (hl : xs.length ≤ 80) : n ≤ 1000000000 := Nat.le_trans (at_le h hl) (by decide)
theorem at_p {w : World} {A : Option Addr} {n c : Nat} {xs : List Tp} (h : At w A n c xs) (hl : xs.length ≤ 80) : n ≤ 400000000 := Nat.le_trans (at_le h hl) (by decide)
theorem of80 {l : List Tp} (h : l.length ≤ 80) : (ofL l).length ≤ 80 := Nat.le_trans (ofL_len l) h
theorem mi80 {l : List Tp} (m : List Tp) (h : l.length ≤ 80) : (minus l m).length ≤ 80 := Nat.le_trans (minus_len l m) h

set_option maxRecDepth 100000 in
set_option maxHeartbeats 4000000 in
theorem sum_any (A B : Option Addr) (n c m d : Nat) (za zb : List Int) (w : World) (ha0 : Ints w A n za) (hb0 : Ints w B m zb) :
    Calls Try.prog 3 #[.slice A n c, .slice B m d] w fun e w' => e = .returned (.bool true) ∧ Below w.heap.size w w' := by
  have HZA := Lib.hid ha0
  have HZB := Lib.hid hb0
  have TL := tames_len za
  have TM := tames_len zb
  clear ha0 hb0
  go_enter Try.func3, Try.ntmps3
  go_wp2_with fail
  refine (Tames.tames_any A n c za _ HZA.out).mono ?_
  rintro e w1 ⟨Al, nl, cl, rfl, ha, hb⟩
  replace HZA := Lib.hid (HZA.out.ext hb)
  replace HZB := Lib.hid (HZB.out.ext hb)
  have Hl := Lib.hid ha
  have hw1 : Below w.heap.size w w1 := hb
  clear hb ha
  go_wp2_with fail
  refine (Tames.tames_any B m d zb _ HZB.out).mono ?_
  rintro e w2 ⟨Ak, nk, ck, rfl, ha, hb⟩
  replace HZA := Lib.hid (HZA.out.ext hb)
  replace HZB := Lib.hid (HZB.out.ext hb)
  replace Hl := Lib.hid (Hl.out.ext hb)
  have Hk := Lib.hid ha
  have hw2 : Below w.heap.size w w2 := hw1.trans (hb.mono hw1.size)
  clear hb ha hw1
  clear HZA HZB
  go_wp2_with fail
  refine (RowsOf.of_any Al nl cl (tames za) _ Hl.out (at_b Hl.out TL)).mono ?_
  rintro e w3 ⟨Ax, nx, cx, rfl, ha, hb⟩
  replace Hl := Lib.hid (Hl.out.ext hb)
  replace Hk := Lib.hid (Hk.out.ext hb)
  have Hx := Lib.hid ha
  have hw3 : Below w.heap.size w w3 := hw2.trans (hb.mono hw2.size)
  clear hb ha hw2
  go_wp2_with fail
  refine (RowsOf.of_any Ak nk ck (tames zb) _ Hk.out (at_b Hk.out TM)).mono ?_
  rintro e w4 ⟨Ay, ny, cy, rfl, ha, hb⟩
  replace Hl := Lib.hid (Hl.out.ext hb)
  replace Hk := Lib.hid (Hk.out.ext hb)
  replace Hx := Lib.hid (Hx.out.ext hb)
  have Hy := Lib.hid ha
  have hw4 : Below w.heap.size w w4 := hw3.trans (hb.mono hw3.size)
  clear hb ha hw3
  go_wp2_with fail
  refine (minus_any Ax Ay nx cx ny cy _ _ _ Hx.out Hy.out (at_b Hx.out (of80 TL)) (at_b Hy.out (of80 TM))).mono ?_
  rintro e w5 ⟨Au, nu, cu, rfl, ha, hb⟩
  replace Hl := Lib.hid (Hl.out.ext hb)
  replace Hk := Lib.hid (Hk.out.ext hb)
  replace Hx := Lib.hid (Hx.out.ext hb)
  replace Hy := Lib.hid (Hy.out.ext hb)
  have Hu := Lib.hid ha
  have hw5 : Below w.heap.size w w5 := hw4.trans (hb.mono hw4.size)
  clear hb ha hw4
  go_wp2_with fail
  refine (minus_any Ax Au nx cx nu cu _ _ _ Hx.out Hu.out (at_b Hx.out (of80 TL)) (at_b Hu.out (mi80 _ (of80 TL)))).mono ?_
  rintro e w6 ⟨Av, nv, cv, rfl, ha, hb⟩
  replace Hl := Lib.hid (Hl.out.ext hb)
  replace Hk := Lib.hid (Hk.out.ext hb)
  replace Hx := Lib.hid (Hx.out.ext hb)
  replace Hy := Lib.hid (Hy.out.ext hb)
  replace Hu := Lib.hid (Hu.out.ext hb)
  have Hv := Lib.hid ha
  have hw6 : Below w.heap.size w w6 := hw5.trans (hb.mono hw5.size)
  clear hb ha hw5
  clear Hu
  go_wp2_with fail
  refine (minus_any Ay Ax ny cy nx cx _ _ _ Hy.out Hx.out (at_b Hy.out (of80 TM)) (at_b Hx.out (of80 TL))).mono ?_
  rintro e w7 ⟨Au2, nu2, cu2, rfl, ha, hb⟩
  replace Hl := Lib.hid (Hl.out.ext hb)
  replace Hk := Lib.hid (Hk.out.ext hb)
  replace Hx := Lib.hid (Hx.out.ext hb)
  replace Hy := Lib.hid (Hy.out.ext hb)
  replace Hv := Lib.hid (Hv.out.ext hb)
  have Hu2 := Lib.hid ha
  have hw7 : Below w.heap.size w w7 := hw6.trans (hb.mono hw6.size)
  clear hb ha hw6
  go_wp2_with fail
  refine (minus_any Ay Au2 ny cy nu2 cu2 _ _ _ Hy.out Hu2.out (at_b Hy.out (of80 TM)) (at_b Hu2.out (mi80 _ (of80 TM)))).mono ?_
  rintro e w8 ⟨Av2, nv2, cv2, rfl, ha, hb⟩
  replace Hl := Lib.hid (Hl.out.ext hb)
  replace Hk := Lib.hid (Hk.out.ext hb)
  replace Hx := Lib.hid (Hx.out.ext hb)
  replace Hy := Lib.hid (Hy.out.ext hb)
  replace Hv := Lib.hid (Hv.out.ext hb)
  replace Hu2 := Lib.hid (Hu2.out.ext hb)
  have Hv2 := Lib.hid ha
  have hw8 : Below w.heap.size w w8 := hw7.trans (hb.mono hw7.size)
  clear hb ha hw7
  clear Hu2
  go_wp2_with fail
  refine (same_true Av Av2 nv cv nv2 cv2 _ _ _ Hv.out Hv2.out (at_b Hv.out (mi80 _ (of80 TL))) (p_both _ _)).mono ?_
  rintro e w9 ⟨rfl, hb⟩
  replace Hl := Lib.hid (Hl.out.ext hb)
  replace Hk := Lib.hid (Hk.out.ext hb)
  replace Hx := Lib.hid (Hx.out.ext hb)
  replace Hy := Lib.hid (Hy.out.ext hb)
  replace Hv := Lib.hid (Hv.out.ext hb)
  replace Hv2 := Lib.hid (Hv2.out.ext hb)
  have hw9 : Below w.heap.size w w9 := hw8.trans (hb.mono hw8.size)
  clear hb  hw8
  clear Hv2
  go_wp2_with fail
  refine (plus_any Ax Ay nx cx ny cy _ _ _ Hx.out Hy.out (at_p Hx.out (of80 TL)) (at_p Hy.out (of80 TM))).mono ?_
  rintro e w10 ⟨Ap, np, cp, rfl, ha, hb⟩
  replace Hl := Lib.hid (Hl.out.ext hb)
  replace Hk := Lib.hid (Hk.out.ext hb)
  replace Hx := Lib.hid (Hx.out.ext hb)
  replace Hy := Lib.hid (Hy.out.ext hb)
  replace Hv := Lib.hid (Hv.out.ext hb)
  have Hp := Lib.hid ha
  have hw10 : Below w.heap.size w w10 := hw9.trans (hb.mono hw9.size)
  clear hb ha hw9
  have ln : np + nv = nx + ny := by
    have := p_count (ofL (tames za)) (ofL (tames zb)) (rises_ofL _) (rises_ofL _)
    rw [Hp.out.len, Hv.out.len, Hx.out.len, Hy.out.len] at this
    exact this
  have lb1 := at_b Hx.out (of80 TL)
  have lb2 := at_b Hy.out (of80 TM)
  have e1 : IntKind.i64.wrap ((np : Int) + nv) = (nx : Int) + ny := by rw [IntWalk.i64_in _ (by omega)]; omega
  have e2 : IntKind.i64.wrap ((nx : Int) + ny) = (nx : Int) + ny := IntWalk.i64_in _ (by omega)
  clear Hp Hv Hy
  clear ln lb1 lb2
  go_wp2_with fail
  refine (plus_any Al Ak nl cl nk ck _ _ _ Hl.out Hk.out (at_p Hl.out TL) (at_p Hk.out TM)).mono ?_
  rintro e w11 ⟨Aq, nq, cq, rfl, ha, hb⟩
  replace Hl := Lib.hid (Hl.out.ext hb)
  replace Hk := Lib.hid (Hk.out.ext hb)
  replace Hx := Lib.hid (Hx.out.ext hb)
  have Hq := Lib.hid ha
  have hw11 : Below w.heap.size w w11 := hw10.trans (hb.mono hw10.size)
  clear hb ha hw10
  go_wp2_with fail
  refine (plus_any Ak Al nk ck nl cl _ _ _ Hk.out Hl.out (at_p Hk.out TM) (at_p Hl.out TL)).mono ?_
  rintro e w12 ⟨Ar, nr, cr, rfl, ha, hb⟩
  replace Hl := Lib.hid (Hl.out.ext hb)
  replace Hk := Lib.hid (Hk.out.ext hb)
  replace Hx := Lib.hid (Hx.out.ext hb)
  replace Hq := Lib.hid (Hq.out.ext hb)
  have Hr := Lib.hid ha
  have hw12 : Below w.heap.size w w12 := hw11.trans (hb.mono hw11.size)
  clear hb ha hw11
  clear Hk
  have lq : (tames za ++ tames zb).length ≤ 160 := by rw [List.length_append]; omega
  go_wp2_with fail
  refine (same_true Aq Ar nq cq nr cr _ _ _ Hq.out Hr.out (Nat.le_trans (at_le Hq.out (Nat.le_trans (ofL_len _) lq)) (by decide)) (p_comm _ _)).mono ?_
  rintro e w13 ⟨rfl, hb⟩
  replace Hl := Lib.hid (Hl.out.ext hb)
  replace Hx := Lib.hid (Hx.out.ext hb)
  replace Hq := Lib.hid (Hq.out.ext hb)
  replace Hr := Lib.hid (Hr.out.ext hb)
  have hw13 : Below w.heap.size w w13 := hw12.trans (hb.mono hw12.size)
  clear hb  hw12
  clear Hq Hr
  go_wp2_with fail
  refine (plus_any Ax none nx cx 0 0 _ [] _ Hx.out (At.nil _) (at_p Hx.out (of80 TL)) (by decide)).mono ?_
  rintro e w14 ⟨As, ns, cs, rfl, ha, hb⟩
  replace Hl := Lib.hid (Hl.out.ext hb)
  replace Hx := Lib.hid (Hx.out.ext hb)
  have Hs := Lib.hid ha
  have hw14 : Below w.heap.size w w14 := hw13.trans (hb.mono hw13.size)
  clear hb ha hw13
  go_wp2_with fail
  refine (same_true As Ax ns cs nx cx _ _ _ Hs.out Hx.out (at_b Hs.out (by rw [p_self]; exact of80 TL)) (p_self _)).mono ?_
  rintro e w15 ⟨rfl, hb⟩
  replace Hl := Lib.hid (Hl.out.ext hb)
  replace Hx := Lib.hid (Hx.out.ext hb)
  replace Hs := Lib.hid (Hs.out.ext hb)
  have hw15 : Below w.heap.size w w15 := hw14.trans (hb.mono hw14.size)
  clear hb  hw14
  clear Hs
  go_wp2_with fail
  refine (minus_any Ax Al nx cx nl cl _ _ _ Hx.out Hl.out (at_b Hx.out (of80 TL)) (at_b Hl.out TL)).mono ?_
  rintro e w16 ⟨Az, nz, cz, rfl, ha, hb⟩
  replace Hl := Lib.hid (Hl.out.ext hb)
  replace Hx := Lib.hid (Hx.out.ext hb)
  have Hz := Lib.hid ha
  have hw16 : Below w.heap.size w w16 := hw15.trans (hb.mono hw15.size)
  clear hb ha hw15
  have lz : nz = 0 := by
    have := Hz.out.len
    rw [p_none] at this
    exact this.symm
  subst lz
  clear Hz Hx Hl
  go_wp2_with fail
  refine (Awake.awake_any _).mono ?_
  rintro e w17 ⟨rfl, hb⟩
  have hw17 : Below w.heap.size w w17 := hw16.trans (hb.mono hw16.size)
  clear hb  hw16
  go_wp2
  go_ret
  exact ⟨rfl, hw17⟩
end Sum
end Go.Proofs.Ytdckfddlcmkdlaa
