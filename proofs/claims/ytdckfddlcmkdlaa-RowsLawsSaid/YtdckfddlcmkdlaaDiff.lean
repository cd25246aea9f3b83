/-
  entaillaw3.RowsDiff: the walk, call by call.
-/
import Derived.Test.YtdckfddlcmkdlaaSum
namespace Go.Proofs.Ytdckfddlcmkdlaa
open Go.RowKit
namespace Df
open Cmp TO Rd Rset Tames Go.Proofs.Ytdckfddlcmkdlaa.Sum

theorem p_make (L M : List Tp) : ofL (minus (ofL L) (minus L M) ++ minus M L) = ofL M := ofL_congr fun x => by
  rw [List.mem_append, mem_minus, mem_minus, mem_minus, mem_ofL]
  by_cases h1 : x ∈ L <;> by_cases h2 : x ∈ M <;> simp [h1, h2]
theorem p_none2 (L : List Tp) : minus L (ofL L) = [] := (rises_minus _ _).ext List.Pairwise.nil fun x => by
  rw [mem_minus, mem_ofL]
  simp
theorem of_get {w : World} {A : Option Addr} {n c : Nat} {xs : List Tp} (h : At w A n c xs) {k : Nat} (hk : k < n) : xs[k]! ∈ xs := by
  have hl : k < xs.length := by rw [h.len]; exact hk
  rw [List.getElem!_eq_getElem?_getD, List.getElem?_eq_getElem hl]
  exact List.getElem_mem hl
theorem has_val (A : Option Addr) (n c : Nat) (xs : List Tp) (t : Tp) (w : World) (hx : At w A n c xs) (hr : Rises xs) (hn : n ≤ 1000000000) (b : Bool) (hb : decide (t ∈ xs) = b) :
    Calls Try.prog 26 #[.slice A n c, t.val] w fun e w' => e = .returned (.bool b) ∧ Below w.heap.size w w' :=
  (Has.has_any A n c xs t w hx hr hn).mono fun e w' ⟨h1, h2⟩ => ⟨by rw [h1, hb], h2⟩
theorem is_true (A : Option Addr) (n c : Nat) (xs : List Tp) (w : World) (hx : At w A n c xs) (hr : Rises xs) (hn : n ≤ 1000000000) :
    Calls Try.prog 22 #[.slice A n c] w fun e w' => e = .returned (.bool true) ∧ Below w.heap.size w w' :=
  (Is.is_any A n c xs w hx hn).mono fun e w' ⟨h1, h2⟩ => ⟨by rw [h1, (Is.isB_iff _).2 hr], h2⟩

set_option maxRecDepth 100000 in
set_option maxHeartbeats 4000000 in
theorem diff_law (A B : Option Addr) (n c m d : Nat) (za zb : List Int) (w : World) (ha0 : Ints w A n za) (hb0 : Ints w B m zb) :
    Calls Try.prog 5 #[.slice A n c, .slice B m d] w fun e w' => e = .returned (.bool true) ∧ Below w.heap.size w w' := by
  have HZA := Lib.hid ha0
  have HZB := Lib.hid hb0
  have TL := tames_len za
  have TM := tames_len zb
  clear ha0 hb0
  go_enter Try.func5, Try.ntmps5
  go_wp2_with fail
  refine (Tames.tames_any A n c za _ HZA.out).mono ?_
  rintro e w1 ⟨Al, nl, cl, rfl, ha, hb⟩
  replace HZA := Lib.hid (HZA.out.ext hb)
  replace HZB := Lib.hid (HZB.out.ext hb)
  have Hl := Lib.hid ha
  have hw1 : Below w.heap.size w w1 := hb
  clear hb ha
  go_wp2_with fail
  refine (Tames.tames_any B m d zb _ HZB.out).mono ?_
  rintro e w2 ⟨Ak, nk, ck, rfl, ha, hb⟩
  replace HZA := Lib.hid (HZA.out.ext hb)
  replace HZB := Lib.hid (HZB.out.ext hb)
  replace Hl := Lib.hid (Hl.out.ext hb)
  have Hk := Lib.hid ha
  have hw2 : Below w.heap.size w w2 := hw1.trans (hb.mono hw1.size)
  clear hb ha hw1
  clear HZA HZB
  go_wp2_with fail
  refine (RowsOf.of_any Al nl cl (tames za) _ Hl.out (at_b Hl.out TL)).mono ?_
  rintro e w3 ⟨Ax, nx, cx, rfl, ha, hb⟩
  replace Hl := Lib.hid (Hl.out.ext hb)
  replace Hk := Lib.hid (Hk.out.ext hb)
  have Hx := Lib.hid ha
  have hw3 : Below w.heap.size w w3 := hw2.trans (hb.mono hw2.size)
  clear hb ha hw2
  go_wp2_with fail
  refine (RowsOf.of_any Ak nk ck (tames zb) _ Hk.out (at_b Hk.out TM)).mono ?_
  rintro e w4 ⟨Ay, ny, cy, rfl, ha, hb⟩
  replace Hl := Lib.hid (Hl.out.ext hb)
  replace Hk := Lib.hid (Hk.out.ext hb)
  replace Hx := Lib.hid (Hx.out.ext hb)
  have Hy := Lib.hid ha
  have hw4 : Below w.heap.size w w4 := hw3.trans (hb.mono hw3.size)
  clear hb ha hw3
  go_wp2_with fail
  refine (diff_any Al Ak nl cl nk ck _ _ _ Hl.out Hk.out (at_b Hl.out TL) (at_b Hk.out TM)).mono ?_
  rintro e w5 ⟨Ap, np, cp, Aq, nq, cq, rfl, ha, ha2, hb⟩
  replace Hl := Lib.hid (Hl.out.ext hb)
  replace Hk := Lib.hid (Hk.out.ext hb)
  replace Hx := Lib.hid (Hx.out.ext hb)
  replace Hy := Lib.hid (Hy.out.ext hb)
  have Hp := Lib.hid ha
  have Hq := Lib.hid ha2
  have hw5 : Below w.heap.size w w5 := hw4.trans (hb.mono hw4.size)
  clear hb ha ha2 hw4
  go_wp2_with fail
  refine (diff_any Ak Al nk ck nl cl _ _ _ Hk.out Hl.out (at_b Hk.out TM) (at_b Hl.out TL)).mono ?_
  rintro e w6 ⟨Ar, nr, cr, As, ns, cs, rfl, ha, ha2, hb⟩
  replace Hl := Lib.hid (Hl.out.ext hb)
  replace Hk := Lib.hid (Hk.out.ext hb)
  replace Hx := Lib.hid (Hx.out.ext hb)
  replace Hy := Lib.hid (Hy.out.ext hb)
  replace Hp := Lib.hid (Hp.out.ext hb)
  replace Hq := Lib.hid (Hq.out.ext hb)
  have Hr := Lib.hid ha
  have Hs := Lib.hid ha2
  have hw6 : Below w.heap.size w w6 := hw5.trans (hb.mono hw5.size)
  clear hb ha ha2 hw5
  go_wp2_with fail
  refine (diff_any Ax Al nx cx nl cl _ _ _ Hx.out Hl.out (at_b Hx.out (of80 TL)) (at_b Hl.out TL)).mono ?_
  rintro e w7 ⟨Au, nu, cu, Av, nv, cv, rfl, ha, ha2, hb⟩
  replace Hl := Lib.hid (Hl.out.ext hb)
  replace Hk := Lib.hid (Hk.out.ext hb)
  replace Hx := Lib.hid (Hx.out.ext hb)
  replace Hy := Lib.hid (Hy.out.ext hb)
  replace Hp := Lib.hid (Hp.out.ext hb)
  replace Hq := Lib.hid (Hq.out.ext hb)
  replace Hr := Lib.hid (Hr.out.ext hb)
  replace Hs := Lib.hid (Hs.out.ext hb)
  have Hu := Lib.hid ha
  have Hv := Lib.hid ha2
  have hw7 : Below w.heap.size w w7 := hw6.trans (hb.mono hw6.size)
  clear hb ha ha2 hw6
  have lu : nu = 0 := by
    have := Hu.out.len
    rw [p_none2] at this
    exact this.symm
  have lv : nv = 0 := by
    have := Hv.out.len
    rw [p_none] at this
    exact this.symm
  subst lu
  subst lv
  clear Hl Hk Hu Hv
  have bp := at_b Hp.out (mi80 _ TM)
  have bq := at_b Hq.out (mi80 _ TL)
  have HPL := Lib.hid (Below.refl w7.heap.size w7)
  go_wp2_with fail
  go_loopg [4, 15] np (fun gh _s4 s15 wr => ∃ k : Nat, k ≤ np ∧ np - k ≤ gh ∧ s15 = .int .i64 k ∧ Below w7.heap.size w7 wr)
  case atStart => exact ⟨0, by omega, by omega, rfl, Below.refl _ _⟩
  case round =>
    obtain ⟨k, hk, hg, rfl, hbel⟩ := hrel
    by_cases hlt : k < np
    · obtain ⟨b, o, rfl, hbx, hcx⟩ := Same.get_at Hp.out hlt
      have hmem := mem_minus.1 (of_get Hp.out hlt)
      have HXC := Lib.hid hcx
      clear hcx
      generalize (minus (tames zb) (tames za))[k]! = t at *
      have HM := Lib.hid hmem
      have HBX := Lib.hid hbx
      clear hmem hbx
      have s1 : (k : Int) < np := by omega
      have s2 : (0 : Int) ≤ k := by omega
      obtain ⟨q0, q1, q2, q3, q4, q5⟩ := (HXC.out.keep fun i => hbel.cell (p := ⟨b, i, none⟩) HBX.out).cells
      go_wp2_with fail
      refine (has_val Ax nx cx _ t _ (Hx.out.ext hbel) (rises_ofL _) (at_b Hx.out (of80 TL)) false (by simp only [decide_eq_false_iff_not, mem_ofL]; exact HM.out.2)).mono ?_
      rintro e wa ⟨rfl, hba⟩
      have hbel2 : Below w7.heap.size w7 wa := hbel.trans (hba.mono hbel.size)
      clear q0 q1 q2 q3 q4 q5 hba hbel
      obtain ⟨q0, q1, q2, q3, q4, q5⟩ := (HXC.out.keep fun i => hbel2.cell (p := ⟨b, i, none⟩) HBX.out).cells
      go_wp2_with fail
      refine (has_val Ay ny cy _ t _ (Hy.out.ext hbel2) (rises_ofL _) (at_b Hy.out (of80 TM)) true (by simp only [decide_eq_true_eq, mem_ofL]; exact HM.out.1)).mono ?_
      rintro e wb ⟨rfl, hbb⟩
      have hbel3 : Below w7.heap.size w7 wb := hbel2.trans (hbb.mono hbel2.size)
      clear q0 q1 q2 q3 q4 q5 hbb hbel2
      go_wp2
      go_roundg (np - (k + 1))
      case measure => omega
      case rel => exact ⟨k + 1, by omega, Nat.le_refl _, by go_num, hbel3⟩
    · have hw8 : Below w.heap.size w wr := hw7.trans (hbel.mono hw7.size)
      replace Hx := Lib.hid (Hx.out.ext hbel)
      replace Hy := Lib.hid (Hy.out.ext hbel)
      replace Hp := Lib.hid (Hp.out.ext hbel)
      replace Hq := Lib.hid (Hq.out.ext hbel)
      replace Hr := Lib.hid (Hr.out.ext hbel)
      replace Hs := Lib.hid (Hs.out.ext hbel)
      have s1 : ¬ (k : Int) < np := by omega
      clear hw7 hbel HPL
      generalize wr = w8 at *
      go_wp2_with fail
      go_loopg [4, 16] nq (fun gh _s4 s16 wr => ∃ k : Nat, k ≤ nq ∧ nq - k ≤ gh ∧ s16 = .int .i64 k ∧ Below w8.heap.size w8 wr)
      case atStart => exact ⟨0, by omega, by omega, rfl, Below.refl _ _⟩
      case round =>
        obtain ⟨k, hk, hg, rfl, hbel⟩ := hrel
        by_cases hlt : k < nq
        · obtain ⟨b, o, rfl, hbx, hcx⟩ := Same.get_at Hq.out hlt
          have hmem := mem_minus.1 (of_get Hq.out hlt)
          have HXC := Lib.hid hcx
          clear hcx
          generalize (minus (tames za) (tames zb))[k]! = t at *
          have HM := Lib.hid hmem
          have HBX := Lib.hid hbx
          clear hmem hbx
          have s1 : (k : Int) < nq := by omega
          have s2 : (0 : Int) ≤ k := by omega
          obtain ⟨q0, q1, q2, q3, q4, q5⟩ := (HXC.out.keep fun i => hbel.cell (p := ⟨b, i, none⟩) HBX.out).cells
          go_wp2_with fail
          refine (has_val Ax nx cx _ t _ (Hx.out.ext hbel) (rises_ofL _) (at_b Hx.out (of80 TL)) true (by simp only [decide_eq_true_eq, mem_ofL]; exact HM.out.1)).mono ?_
          rintro e wa ⟨rfl, hba⟩
          have hbel2 : Below w8.heap.size w8 wa := hbel.trans (hba.mono hbel.size)
          clear q0 q1 q2 q3 q4 q5 hba hbel
          obtain ⟨q0, q1, q2, q3, q4, q5⟩ := (HXC.out.keep fun i => hbel2.cell (p := ⟨b, i, none⟩) HBX.out).cells
          go_wp2_with fail
          refine (has_val Ay ny cy _ t _ (Hy.out.ext hbel2) (rises_ofL _) (at_b Hy.out (of80 TM)) false (by simp only [decide_eq_false_iff_not, mem_ofL]; exact HM.out.2)).mono ?_
          rintro e wb ⟨rfl, hbb⟩
          have hbel3 : Below w8.heap.size w8 wb := hbel2.trans (hbb.mono hbel2.size)
          clear q0 q1 q2 q3 q4 q5 hbb hbel2
          go_wp2
          go_roundg (nq - (k + 1))
          case measure => omega
          case rel => exact ⟨k + 1, by omega, Nat.le_refl _, by go_num, hbel3⟩
        · have hw9 : Below w.heap.size w wr := hw8.trans (hbel.mono hw8.size)
          replace Hx := Lib.hid (Hx.out.ext hbel)
          replace Hy := Lib.hid (Hy.out.ext hbel)
          replace Hp := Lib.hid (Hp.out.ext hbel)
          replace Hq := Lib.hid (Hq.out.ext hbel)
          replace Hr := Lib.hid (Hr.out.ext hbel)
          replace Hs := Lib.hid (Hs.out.ext hbel)
          have s1 : ¬ (k : Int) < nq := by omega
          clear hw8 hbel
          generalize wr = w9 at *
          go_wp2_with fail
          refine (minus_any Ax Aq nx cx nq cq _ _ _ Hx.out Hq.out (at_b Hx.out (of80 TL)) bq).mono ?_
          rintro e w10 ⟨Ag, ng, cg, rfl, ha, hb⟩
          replace Hx := Lib.hid (Hx.out.ext hb)
          replace Hy := Lib.hid (Hy.out.ext hb)
          replace Hp := Lib.hid (Hp.out.ext hb)
          replace Hq := Lib.hid (Hq.out.ext hb)
          replace Hr := Lib.hid (Hr.out.ext hb)
          replace Hs := Lib.hid (Hs.out.ext hb)
          have Hg := Lib.hid ha
          have hw10 : Below w.heap.size w w10 := hw9.trans (hb.mono hw9.size)
          clear hb ha hw9
          clear s1
          go_wp2_with fail
          refine (plus_any Ag Ap ng cg np cp _ _ _ Hg.out Hp.out (at_p Hg.out (mi80 _ (of80 TL))) (at_p Hp.out (mi80 _ TM))).mono ?_
          rintro e w11 ⟨Ah, nh, ch, rfl, ha, hb⟩
          replace Hx := Lib.hid (Hx.out.ext hb)
          replace Hy := Lib.hid (Hy.out.ext hb)
          replace Hp := Lib.hid (Hp.out.ext hb)
          replace Hq := Lib.hid (Hq.out.ext hb)
          replace Hr := Lib.hid (Hr.out.ext hb)
          replace Hs := Lib.hid (Hs.out.ext hb)
          replace Hg := Lib.hid (Hg.out.ext hb)
          have Hh := Lib.hid ha
          have hw11 : Below w.heap.size w w11 := hw10.trans (hb.mono hw10.size)
          clear hb ha hw10
          go_wp2_with fail
          refine (same_true Ah Ay nh ch ny cy _ _ _ Hh.out Hy.out (at_b Hh.out (by rw [p_make]; exact of80 TM)) (p_make _ _)).mono ?_
          rintro e w12 ⟨rfl, hb⟩
          replace Hx := Lib.hid (Hx.out.ext hb)
          replace Hy := Lib.hid (Hy.out.ext hb)
          replace Hp := Lib.hid (Hp.out.ext hb)
          replace Hq := Lib.hid (Hq.out.ext hb)
          replace Hr := Lib.hid (Hr.out.ext hb)
          replace Hs := Lib.hid (Hs.out.ext hb)
          replace Hg := Lib.hid (Hg.out.ext hb)
          replace Hh := Lib.hid (Hh.out.ext hb)
          have hw12 : Below w.heap.size w w12 := hw11.trans (hb.mono hw11.size)
          clear hb  hw11
          go_wp2_with fail
          refine (same_true Ap As np cp ns cs _ _ _ Hp.out Hs.out bp rfl).mono ?_
          rintro e w13 ⟨rfl, hb⟩
          replace Hx := Lib.hid (Hx.out.ext hb)
          replace Hy := Lib.hid (Hy.out.ext hb)
          replace Hp := Lib.hid (Hp.out.ext hb)
          replace Hq := Lib.hid (Hq.out.ext hb)
          replace Hr := Lib.hid (Hr.out.ext hb)
          replace Hs := Lib.hid (Hs.out.ext hb)
          replace Hg := Lib.hid (Hg.out.ext hb)
          replace Hh := Lib.hid (Hh.out.ext hb)
          have hw13 : Below w.heap.size w w13 := hw12.trans (hb.mono hw12.size)
          clear hb  hw12
          go_wp2_with fail
          refine (same_true Aq Ar nq cq nr cr _ _ _ Hq.out Hr.out bq rfl).mono ?_
          rintro e w14 ⟨rfl, hb⟩
          replace Hx := Lib.hid (Hx.out.ext hb)
          replace Hy := Lib.hid (Hy.out.ext hb)
          replace Hp := Lib.hid (Hp.out.ext hb)
          replace Hq := Lib.hid (Hq.out.ext hb)
          replace Hr := Lib.hid (Hr.out.ext hb)
          replace Hs := Lib.hid (Hs.out.ext hb)
          replace Hg := Lib.hid (Hg.out.ext hb)
          replace Hh := Lib.hid (Hh.out.ext hb)
          have hw14 : Below w.heap.size w w14 := hw13.trans (hb.mono hw13.size)
          clear hb  hw13
          go_wp2_with fail
          refine (is_true Ap np cp _ _ Hp.out (rises_minus _ _) bp).mono ?_
          rintro e w15 ⟨rfl, hb⟩
          replace Hx := Lib.hid (Hx.out.ext hb)
          replace Hy := Lib.hid (Hy.out.ext hb)
          replace Hp := Lib.hid (Hp.out.ext hb)
          replace Hq := Lib.hid (Hq.out.ext hb)
          replace Hr := Lib.hid (Hr.out.ext hb)
          replace Hs := Lib.hid (Hs.out.ext hb)
          replace Hg := Lib.hid (Hg.out.ext hb)
          replace Hh := Lib.hid (Hh.out.ext hb)
          have hw15 : Below w.heap.size w w15 := hw14.trans (hb.mono hw14.size)
          clear hb  hw14
          go_wp2_with fail
          refine (is_true Aq nq cq _ _ Hq.out (rises_minus _ _) bq).mono ?_
          rintro e w16 ⟨rfl, hb⟩
          replace Hx := Lib.hid (Hx.out.ext hb)
          replace Hy := Lib.hid (Hy.out.ext hb)
          replace Hp := Lib.hid (Hp.out.ext hb)
          replace Hq := Lib.hid (Hq.out.ext hb)
          replace Hr := Lib.hid (Hr.out.ext hb)
          replace Hs := Lib.hid (Hs.out.ext hb)
          replace Hg := Lib.hid (Hg.out.ext hb)
          replace Hh := Lib.hid (Hh.out.ext hb)
          have hw16 : Below w.heap.size w w16 := hw15.trans (hb.mono hw15.size)
          clear hb  hw15
          go_wp2_with fail
          refine (Awake.awake_any _).mono ?_
          rintro e w17 ⟨rfl, hb⟩
          replace Hx := Lib.hid (Hx.out.ext hb)
          replace Hy := Lib.hid (Hy.out.ext hb)
          replace Hp := Lib.hid (Hp.out.ext hb)
          replace Hq := Lib.hid (Hq.out.ext hb)
          replace Hr := Lib.hid (Hr.out.ext hb)
          replace Hs := Lib.hid (Hs.out.ext hb)
          replace Hg := Lib.hid (Hg.out.ext hb)
          replace Hh := Lib.hid (Hh.out.ext hb)
          have hw17 : Below w.heap.size w w17 := hw16.trans (hb.mono hw16.size)
          clear hb  hw16
          go_wp2
          go_ret
          exact ⟨rfl, hw17⟩
end Df
end Go.Proofs.Ytdckfddlcmkdlaa
