/-
 GainRule: the law's answer is yes. No program in sight.
-/
import Derived.Test.YtgmhbmcdlkajdaaGreatDoorGlh
namespace Go.Proofs.YtgmhbmcdlkajdaaGreatDoor.Ab
open Go.RowKit
theorem bits_pass : ∀ i j : Fin 8, IntKind.i64.wrap (ann (IntKind.i64.wrap (an i.1 j.1 : Int)) j.1 : Int) = 0 ∧ IntKind.i64.wrap (an i.1 7 : Int) = (i.1 : Int) ∧ IntKind.i64.wrap (ann i.1 7 : Int) = 0 ∧ IntKind.i64.wrap (ann j.1 j.1 : Int) = 0 := by decide
theorem bp {x y : Int} (hx : 0 ≤ x ∧ x ≤ 7) (hy : 0 ≤ y ∧ y ≤ 7) : IntKind.i64.wrap (ann (IntKind.i64.wrap (an x y : Int)) y : Int) = 0 ∧ IntKind.i64.wrap (an x 7 : Int) = x ∧ IntKind.i64.wrap (ann x 7 : Int) = 0 ∧ IntKind.i64.wrap (ann y y : Int) = 0 := by
 refine of8 (p := fun x => IntKind.i64.wrap (ann (IntKind.i64.wrap (an x y : Int)) y : Int) = 0 ∧ IntKind.i64.wrap (an x 7 : Int) = x ∧ IntKind.i64.wrap (ann x 7 : Int) = 0 ∧ IntKind.i64.wrap (ann y y : Int) = 0) (fun i => of8 (p := fun y => IntKind.i64.wrap (ann (IntKind.i64.wrap (an i.1 y : Int)) y : Int) = 0 ∧ IntKind.i64.wrap (an i.1 7 : Int) = (i.1 : Int) ∧ IntKind.i64.wrap (ann i.1 7 : Int) = 0 ∧ IntKind.i64.wrap (ann y y : Int) = 0) (fun j => bits_pass i j) hy) hx
theorem sh_zero (M : Int) : sh M 0 = M := by
 unfold sh
 simp
theorem most_at {M : Int} (hM : 0 ≤ M ∧ M ≤ 511) {k : Int} (hk : 1 ≤ k ∧ k ≤ 6) : idx (mostL M) (Int.tmod (IntKind.i64.wrap (an k 7 : Int)) 7) = some (if k = 1 then dg M 6 else if k = 5 then dg M 3 else if k = 6 then dg M 0 else 7) := by
 have e6 : dg M 6 = sh M 6 := by
  unfold dg
  have h : 0 ≤ sh M 6 ∧ sh M 6 ≤ 7 := by
   unfold sh
   rw [Int.fdiv_eq_ediv_of_nonneg _ (by decide)]
   have : ((2 : Int) ^ (min 6 64)) = 64 := by decide
   rw [this]
   omega
  exact (bp h h).2.1
 have e0 : dg M 0 = IntKind.i64.wrap (an M 7 : Int) := by
  unfold dg
  rw [sh_zero]
 rw [e6, e0]
 have : k = 1 ∨ k = 2 ∨ k = 3 ∨ k = 4 ∨ k = 5 ∨ k = 6 := by omega
 rcases this with rfl | rfl | rfl | rfl | rfl | rfl <;> rfl
theorem sse_one {d : List GEntry} (hs : SSE d) {x y : GEntry} (hx : x ∈ d) (hy : y ∈ d) (h : cfE x y = 0) : x = y := by
 obtain ⟨i, hi, rfl⟩ := List.getElem_of_mem hx
 obtain ⟨j, hj, rfl⟩ := List.getElem_of_mem hy
 have hp := List.pairwise_iff_getElem.1 hs
 rcases Nat.lt_trichotomy i j with k | k | k
 ·have := hp i j hi hj k
  omega
 ·subst k
  rfl
 ·have h1 := hp j i hj hi k
  have h2 := pre_E.neg d[i] d[j]
  omega
theorem own_pass {M : Int} (hM : 0 ≤ M ∧ M ≤ 511) {d : List GEntry} (h1 : ∀ x ∈ d, textOK x = true) (h2 : ∀ x ∈ d, x.default = true) (h3 : SSE d) : ∀ a ∈ ownE M d, passE M d a := by
 intro a ha
 unfold ownE at ha
 cases hd : d.isEmpty with
 | true =>
  have he := List.isEmpty_iff.1 hd
  rw [hd, if_pos rfl] at ha
  have key : ∀ (k : Int) (b : Int), (k = 1 ∧ b = dg M 6 ∨ k = 3 ∧ b = dg M 3 ∨ k = 5 ∧ b = dg M 3 ∨ k = 6 ∧ b = dg M 0) → passE M d ⟨k, false, ByteArray.empty, b⟩ := fun k b hk => by
   refine ⟨_, most_at hM (k := k) (by omega), ?_, by rw [hd]; rfl, fun x hx => (by rw [he] at hx; cases hx), fun _ => rfl⟩
   have hm : mostM M d ⟨k, false, ByteArray.empty, b⟩ (if k = 1 then dg M 6 else if k = 5 then dg M 3 else if k = 6 then dg M 0 else 7) = b := by
    unfold mostM
    rw [hd]
    rcases hk with ⟨rfl, rfl⟩ | ⟨rfl, rfl⟩ | ⟨rfl, rfl⟩ | ⟨rfl, rfl⟩ <;> rfl
   have hb : 0 ≤ b ∧ b ≤ 7 := by
    rcases hk with ⟨_, rfl⟩ | ⟨_, rfl⟩ | ⟨_, rfl⟩ | ⟨_, rfl⟩ <;> exact dg_le ..
   rw [hm]
   exact (bp hb hb).2.2.2
  unfold plainE at ha
  simp only [List.mem_cons, List.not_mem_nil, or_false] at ha
  rcases ha with rfl | rfl | rfl | rfl
  ·exact key _ _ (.inl ⟨rfl, rfl⟩)
  ·exact key _ _ (.inr (.inl ⟨rfl, rfl⟩))
  ·exact key _ _ (.inr (.inr (.inl ⟨rfl, rfl⟩)))
  ·exact key _ _ (.inr (.inr (.inr ⟨rfl, rfl⟩)))
 | false =>
  rw [hd, if_neg (by decide)] at ha
  obtain ⟨y, hy, rfl⟩ := List.mem_map.1 ha
  obtain ⟨t1, t2, t3, t4⟩ := textOK_iff (h1 y hy)
  have hmost := most_at hM (k := y.kind) (by omega)
  refine ⟨_, hmost, ?_, ?_, fun x hx hm => ?_, fun h => by rw [hd] at h; cases h⟩
  ·have hm : mostM M d (inhE M y) (if y.kind = 1 then dg M 6 else if y.kind = 5 then dg M 3 else if y.kind = 6 then dg M 0 else 7) = (if y.kind = 1 then dg M 6 else if y.kind = 5 then dg M 3 else if y.kind = 6 then dg M 0 else 7) := by
    unfold mostM
    rw [hd]
    rfl
   rw [hm]
   unfold inhE
   dsimp only
   by_cases k1 : y.kind = 1
   ·rw [if_pos k1, if_pos (beq_iff_eq.2 k1)]
    exact (bp t2 (dg_le ..)).1
   ·rw [if_neg k1, if_neg (fun e => k1 (eq_of_beq e))]
    by_cases k5 : y.kind = 5
    ·rw [if_pos k5, if_pos (beq_iff_eq.2 k5)]
     exact (bp t2 (dg_le ..)).1
    ·rw [if_neg k5, if_neg (fun e => k5 (eq_of_beq e))]
     by_cases k6 : y.kind = 6
     ·rw [if_pos k6, if_pos (beq_iff_eq.2 k6)]
      exact (bp t2 (dg_le ..)).1
     ·rw [if_neg k6, if_neg (fun e => k6 (eq_of_beq e))]
      exact (bp t2 t2).2.2.1
  ·rw [hd, Bool.false_or]
   refine List.any_eq_true.2 ⟨y, hy, ?_⟩
   unfold mtE inhE
   simp
  ·have hxy : x = y := by
    refine sse_one h3 hx hy ?_
    unfold mtE inhE at hm
    dsimp only at hm
    rw [Bool.and_eq_true] at hm
    exact cfE_zero.2 ⟨by rw [h2 x hx, h2 y hy], eq_of_beq hm.1, of_decide_eq_true hm.2⟩
   subst hxy
   have hm : mostM M d (inhE M x) (if x.kind = 1 then dg M 6 else if x.kind = 5 then dg M 3 else if x.kind = 6 then dg M 0 else 7) = (if x.kind = 1 then dg M 6 else if x.kind = 5 then dg M 3 else if x.kind = 6 then dg M 0 else 7) := by
    unfold mostM
    rw [hd]
    rfl
   rw [hm]
   unfold inhE
   dsimp only
   by_cases k1 : x.kind = 1
   ·rw [if_pos k1, if_pos (beq_iff_eq.2 k1)]
    exact ⟨fun h => by omega, rfl⟩
   ·rw [if_neg k1, if_neg (fun e => k1 (eq_of_beq e))]
    by_cases k5 : x.kind = 5
    ·rw [if_pos k5, if_pos (beq_iff_eq.2 k5)]
     exact ⟨fun h => by omega, rfl⟩
    ·rw [if_neg k5, if_neg (fun e => k5 (eq_of_beq e))]
     by_cases k6 : x.kind = 6
     ·rw [if_pos k6, if_pos (beq_iff_eq.2 k6)]
      exact ⟨fun h => by omega, rfl⟩
     ·rw [if_neg k6, if_neg (fun e => k6 (eq_of_beq e))]
      exact ⟨fun _ => rfl, (bp t2 t2).2.1.symm⟩
theorem path_new (t : Int) : ∃ p ∈ newP, law19_Path NF (IntKind.i64.wrap ((IntKind.i64.wrap (an t 3 : Int)) + 8)) = some p := by
 have h3 : (BitVec.ofInt 64 3).toNat = 3 := rfl
 have h := an_le t 3
 rw [wrap_an t 3 (by omega)]
 have : an t 3 = 0 ∨ an t 3 = 1 ∨ an t 3 = 2 ∨ an t 3 = 3 := by omega
 rcases this with k | k | k | k <;> rw [k]
 ·exact ⟨{ data := #[47, 110] }, by decide, rfl⟩
 ·exact ⟨{ data := #[47, 97, 47, 110] }, by decide, rfl⟩
 ·exact ⟨{ data := #[47, 97, 47, 99, 47, 110] }, by decide, rfl⟩
 ·exact ⟨{ data := #[47, 98, 47, 110] }, by decide, rfl⟩
theorem mode_511 (t : Int) : 0 ≤ IntKind.i64.wrap (an t 511 : Int) ∧ IntKind.i64.wrap (an t 511 : Int) ≤ 511 := by
 have h3 : (BitVec.ofInt 64 511).toNat = 511 := rfl
 have h := an_le t 511
 rw [wrap_an t 511 (by omega)]
 omega
theorem own_len (M : Int) (d : List GEntry) : (ownE M d).length = if d.isEmpty then 4 else d.length := by
 unfold ownE
 cases d.isEmpty with
 | true => rfl
 | false => rw [if_neg (by decide), if_neg (by decide), List.length_map]
theorem law_gainRule (t0 : List Int) (t1 t2 : Int) (t3 : Bool) : law19_GainRule NF t0 t1 t2 t3 = some true := by
 have hNF : NF = 30000 := rfl
 obtain ⟨l, hv, ⟨hg, hl⟩, hb⟩ := valid18L t0
 obtain ⟨p, hp, hpath⟩ := path_new t1
 have hM := mode_511 t2
 have hnew := new_some hg hl hb hp t3 hM
 have hpar := parent_ok (newP_ok p hp).1
 have hL1 : law19_GainRule_L1 NF l p NF (0, ByteArray.empty, [], ByteArray.empty, ByteArray.empty, [], 0, 0) = _ := dir_loop (p := p) (by omega) hpar NF 0 (0, ByteArray.empty, [], ByteArray.empty, ByteArray.empty, [], 0) (by omega) (by omega)
 rw [List.drop_zero] at hL1
 unfold law19_GainRule
 rw [hv, Zo, hpath, Zo, hnew, Zo, hL1, Zo]
 rcases dir_fold (q := parentT p) l (0, ByteArray.empty, [], ByteArray.empty, ByteArray.empty, [], 0) with ⟨h1, h2⟩ | ⟨f, h1, h2, h3⟩
 ·rw [h2, dir_none h1]
  rfl
 ·obtain ⟨d1, d2, d3, d4⟩ := dir_same hg h1 h2
  have hsz := (hg.1 f h1).siz
  have hE : defE (findF l (parentT p)).1.acl = defE f.acl := by
   unfold defE
   rw [d2]
  rw [h3, d1, if_pos rfl, hE]
  unfold stD
  dsimp only
  obtain ⟨g1, g2, g3, g4, g5⟩ := def_ok d3
  have hfl := acl_len hb h1
  have hL2 : law19_GainRule_L2 NF (allE f.acl, true) NF ([], 0) = some (defE f.acl) := d2_loop (t := (allE f.acl, true)) (by have := (oke_iff d3).2.2.2.2.2; dsimp only; omega) NF 0 [] (by omega) (by have := (oke_iff d3).2.2.2.2.2; dsimp only; omega) (by simp)
  rw [d4, show ((3 : Int) == 0) = false from rfl, if_neg (by decide), aclNF hsz.1 hsz.2.2, d3, if_pos rfl, Zo, show ((0 : Int) != 0) = false from rfl, if_neg (by decide), Bool.not_true, Zo, if_neg (by decide), hL2, Zo]
  generalize defE f.acl = D at g1 g2 g3 g4 g5
  obtain ⟨o1, o2, o3, o4, o5, o6⟩ := own_ok (mode := IntKind.i64.wrap (an t2 511 : Int)) g1 g2 g3 g4
  have hpass := own_pass hM g1 g2 g3
  have hlen : (newE (IntKind.i64.wrap (an t2 511 : Int)) t3 D).length ≤ 100 := by
   unfold newE
   rw [List.length_append]
   cases t3
   ·simp; omega
   ·simp; omega
  have hdf : ∀ a ∈ newE (IntKind.i64.wrap (an t2 511 : Int)) t3 D, a.default = false → passE (IntKind.i64.wrap (an t2 511 : Int)) D a := fun a ha hd => by
   unfold newE at ha
   rcases List.mem_append.1 ha with h | h
   ·exact hpass a h
   ·cases t3 with
    | true =>
     have h : a ∈ D := h
     rw [g2 a h] at hd
     cases hd
    | false =>
     have h : a ∈ ([] : List GEntry) := h
     cases h
  have e1 : fl true (newE (IntKind.i64.wrap (an t2 511 : Int)) t3 D) = if t3 then D else [] := by
   unfold newE
   rw [fl_app, fl_none (d := true) o2, List.nil_append]
   cases t3 with
   | true => exact fl_same g2
   | false => rfl
  have e0 : fl false (newE (IntKind.i64.wrap (an t2 511 : Int)) t3 D) = ownE (IntKind.i64.wrap (an t2 511 : Int)) D := by
   unfold newE
   rw [fl_app, fl_same o2]
   cases t3 with
   | true =>
    show _ ++ fl false D = _
    rw [fl_none (d := false) g2, List.append_nil]
   | false =>
    show _ ++ [] = _
    rw [List.append_nil]
  generalize hN : newE (IntKind.i64.wrap (an t2 511 : Int)) t3 D = T at hlen hdf e1 e0
  have hL3 : law19_GainRule_L3 NF t2 ((⟨if t3 then 3 else 4, p, [], { data := #[117] }, { data := #[103] }, T, 0⟩ : GFile), 0) D NF ([], 0, 0) = _ := l3_loop (t := ((⟨if t3 then 3 else 4, p, [], { data := #[117] }, { data := #[103] }, T, 0⟩ : GFile), 0)) (by dsimp only; omega) (by omega) hdf NF 0 0 [] (by omega) (by dsimp only; omega) (by simp) (by omega)
  dsimp only at hL3
  rw [List.drop_zero, e1, e0, own_len, List.nil_append, Nat.zero_add] at hL3
  rw [hL3, Zo]
  dsimp only
  have ht : ((if (decide (0 < (D.length : Int))) then (if ((((if D.isEmpty then 4 else D.length : Nat)) : Int) != (D.length : Int)) then some true else (if ((D.length : Int) == 0) then some ((((if D.isEmpty then 4 else D.length : Nat)) : Int) != 4) else some false)) else (if ((D.length : Int) == 0) then some ((((if D.isEmpty then 4 else D.length : Nat)) : Int) != 4) else some false)) : Option Bool) = some false := by
   cases D with
   | nil => rfl
   | cons x r =>
    rw [empty_len, show (x :: r).isEmpty = false from rfl, if_neg (show ¬ false = true by decide), bne, beq_self_eq_true]
    cases decide (0 < ((x :: r).length : Int)) <;> rfl
  rw [ht, Zo, if_neg (by decide)]
  cases t3 with
  | true =>
   rw [if_pos rfl, if_pos rfl, sameAcl_some (by omega) (by omega), Zo, decide_eq_true rfl, if_pos rfl, beqS, decide_eq_true rfl, beqS, decide_eq_true rfl, beqS, decide_eq_true rfl]
   rfl
  | false => rfl
theorem law_gainRule_ex (t0 : List Int) (t1 t2 : Int) (t3 : Bool) (_ : t0.length ≤ maxLen ∧ ∀ y ∈ t0, (Lit.int .i64 y).wf = true) (_ : (Lit.int .i64 t1).wf = true) (_ : (Lit.int .i64 t2).wf = true) (_ : True) : ∃ n, law19_GainRule n t0 t1 t2 t3 = some true := ⟨NF, law_gainRule t0 t1 t2 t3⟩
end Go.Proofs.YtgmhbmcdlkajdaaGreatDoor.Ab
