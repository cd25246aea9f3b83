/-
  rows.Is: does a list rise?
-/
import Derived.Test.YtdckfddlcmkdlaaSame
namespace Go.Proofs.Ytdckfddlcmkdlaa
open Go.RowKit
namespace Is
open Cmp TO Rd

def isB : List Tp → Bool
  | x :: y :: l => ltB x y && isB (y :: l)
  | _ => true
theorem isB_iff : ∀ xs : List Tp, isB xs = true ↔ Rises xs
  | [] => by simp [isB, Rises]
  | [x] => by simp [isB, Rises]
  | x :: y :: l => by
    have ih := isB_iff (y :: l)
    simp only [isB, Bool.and_eq_true, ih]
    constructor
    · rintro ⟨h1, h2⟩
      refine List.pairwise_cons.2 ⟨fun z hz => ?_, h2⟩
      rcases List.mem_cons.1 hz with e | e
      · subst e; exact h1
      · exact lt_trans h1 ((List.pairwise_cons.1 h2).1 z e)
    · intro h
      obtain ⟨h1, h2⟩ := List.pairwise_cons.1 h
      exact ⟨h1 y (List.mem_cons_self ..), h2⟩
theorem isB_take : ∀ (xs : List Tp) (k : Nat), k < xs.length → isB (xs.take (k + 1)) = (isB (xs.take k) && (decide (k = 0) || ltB xs[k - 1]! xs[k]!))
  | [], k, h => by simp at h
  | x :: l, 0, _ => by simp [isB]
  | [x], k + 1, h => by simp at h
  | x :: y :: l, 1, _ => by simp [isB]
  | x :: y :: l, k + 2, h => by
    have ih := isB_take (y :: l) (k + 1) (by simpa using h)
    simp only [List.take_succ_cons] at *
    simp only [isB]
    have e1 : (x :: y :: l)[k + 2 - 1]! = (y :: l)[k + 1 - 1]! := by simp
    have e2 : (x :: y :: l)[k + 2]! = (y :: l)[k + 1]! := by simp
    rw [ih, e1, e2]
    simp [Bool.and_assoc]
theorem isB_false {xs : List Tp} {k : Nat} (h : isB (xs.take (k + 1)) = false) : isB xs = false := by
  cases h2 : isB xs with
  | false => rfl
  | true =>
    have := (isB_iff xs).1 h2
    have h3 := (isB_iff (xs.take (k + 1))).2 (List.Pairwise.sublist (List.take_sublist _ _) this)
    rw [h] at h3
    cases h3

def is4S (b o n c k : Nat) (x y : Tp) : List Fr.Sp := [
  ⟨[], [3], fun _ v _ => v = .int .i64 k⟩,
  ⟨[0], [], fun _ v _ => v = .bool true⟩,
  ⟨[1], [], fun _ v _ => v = .bool true⟩,
  ⟨[2], [0], fun _ v _ => v = .slice (some ⟨b, o, none⟩) n c⟩,
  ⟨[2], [3], fun _ v _ => v = .int .i64 k⟩,
  ⟨[4, 2], [], fun _ v _ => v = .int .i64 ((k : Int) - 1)⟩,
  ⟨[3, 5, 2], [], fun _ v _ => v = .pointer (some ⟨b, o + (k - 1) * 6, none⟩)⟩,
  ⟨[6, 2], [], fun _ v _ => v = x.val⟩,
  ⟨[2], [0], fun _ v _ => v = .slice (some ⟨b, o, none⟩) n c⟩,
  ⟨[2], [3], fun _ v _ => v = .int .i64 k⟩,
  ⟨[8, 9, 2], [], fun _ v _ => v = .pointer (some ⟨b, o + k * 6, none⟩)⟩,
  ⟨[10, 2], [], fun _ v _ => v = y.val⟩,
  ⟨[7, 11, 2], [], fun _ v _ => v = .bool (ltB x y)⟩,
  ⟨[12, 2], [], fun _ v _ => v = .bool (!ltB x y)⟩,
  ⟨[2, 13], [], fun _ v _ => v = .bool (!ltB x y)⟩]
def is4D : List (Option Nat) := [some 9, some 10, some 11, some 12, some 13, some 14, some 15, some 16, some 17, some 18, some 19, some 20, some 21, some 22, some 23]
theorem is4St (b o n c k : Nat) (x y : Tp) : Fr.Stables (is4S b o n c k x y) :=
  ⟨fun _ _ _ _ _ h => h, fun _ _ _ _ _ h => h, fun _ _ _ _ _ h => h, fun _ _ _ _ _ h => h, fun _ _ _ _ _ h => h, fun _ _ _ _ _ h => h, fun _ _ _ _ _ h => h, fun _ _ _ _ _ h => h, fun _ _ _ _ _ h => h, fun _ _ _ _ _ h => h, fun _ _ _ _ _ h => h, fun _ _ _ _ _ h => h, fun _ _ _ _ _ h => h, fun _ _ _ _ _ h => h, fun _ _ _ _ _ h => h, trivial⟩

set_option maxRecDepth 100000 in
set_option maxHeartbeats 2000000 in
theorem is_any (A : Option Addr) (n c : Nat) (xs : List Tp) (w : World) (hx : At w A n c xs) (hn : n ≤ 1000000000) :
    Calls Try.prog 22 #[.slice A n c] w fun e w' => e = .returned (.bool (isB xs)) ∧ Below w.heap.size w w' := by
  have HX := Lib.hid hx
  have HL := Lib.hid hx.len
  clear hx
  go_enter Try.func22, Try.ntmps22
  go_wp2
  go_loopg [3, 6] n (fun gh _s3 s6 wr => ∃ k : Nat, k ≤ n ∧ n - k ≤ gh ∧ s6 = .int .i64 k ∧ Below w.heap.size w wr ∧ Hid (isB (xs.take k) = true))
  case atStart => exact ⟨0, by omega, by omega, rfl, Below.refl _ _, Lib.hid (by simp [isB])⟩
  case round =>
    obtain ⟨k, hk, hg, rfl, hbel, HT⟩ := hrel
    by_cases hlt : k < n
    · by_cases h0 : k = 0
      · subst h0
        go_wp2_with fail
        go_quiet (fail)
        go_wp2
        go_roundg (n - 1)
        case measure => omega
        case rel => exact ⟨1, by omega, Nat.le_refl _, by go_num, below_drewN hbel _, Lib.hid (by rw [isB_take xs 0 (by rw [HL.out]; exact hlt)]; simp [isB])⟩
      · obtain ⟨b, o, rfl, hbx, hcy⟩ := Same.get_at HX.out hlt
        obtain ⟨b', o', e', _, hcx⟩ := Same.get_at HX.out (show k - 1 < n by omega)
        injection e' with e'
        injection e' with e1 e2
        subst e1; subst e2
        have HXC := Lib.hid (hcx.keep fun i => hbel.cell (p := ⟨b, i, none⟩) hbx)
        have HYC := Lib.hid (hcy.keep fun i => hbel.cell (p := ⟨b, i, none⟩) hbx)
        have hbl : b < wr.heap.size := Nat.lt_of_lt_of_le hbx hbel.size
        have HST := Lib.hid (isB_take xs k (by rw [HL.out]; exact hlt))
        clear hcx hcy
        generalize hx : xs[k - 1]! = x at *
        generalize hy : xs[k]! = y at *
        clear hx hy
        have s1 : IntKind.i64.wrap ((k : Int) - 1) = (k : Int) - 1 := IntWalk.i64_in _ (by omega)
        have s2 : 0 ≤ (k : Int) - 1 := by omega
        have s3 : ((k : Int) - 1).toNat = k - 1 := by omega
        have s4 : (k : Int) - 1 < n := by omega
        have s5 : (1 : Int) ≤ k := by omega
        have s6 : (0 : Int) < k := by omega
        have s7 : (k : Int) < n := by omega
        have s8 : (0 : Nat) < k := by omega
        go_wp2_with fail
        refine Fr.wp_region_free (by kernel_rfl) (is4S b o n c k x y) is4D (by kernel_rfl) (by kernel_rfl) (is4St _ _ _ _ _ _ _) ?_ ?_
        refine ⟨?_, ?_, ?_, ?_, ?_, ?_, ?_, ?_, ?_, ?_, ?_, ?_, ?_, ?_, ?_, trivial⟩
        · -- 0: Op.move t3
          intro f a w K hE hA hO hF hK
          have o3 : a.tmps[3]? = some (_) := (hO 3 (by simp)).trans rfl
          clear hA hO hF
          go_simp; exact hK _ _ (Below.refl _ _) (by first | trivial | rfl)
        · -- 1: Op.binOp BinOp.gtr 3 t9 (const (0:i64)) 3
          intro f a w K hE hA hO hF hK
          have e9 : a.tmps[9]? = some (f 0) := hA 0 (by simp) 9 rfl
          have h0 : (f 0) = .int .i64 k := hF.1
          clear hA hO hF
          go_simp; exact hK _ _ (Below.refl _ _) (by first | trivial | rfl)
        · -- 2: Op.move t10
          intro f a w K hE hA hO hF hK
          have e10 : a.tmps[10]? = some (f 1) := hA 1 (by simp) 10 rfl
          have h1 : (f 1) = .bool true := hF.1
          clear hA hO hF
          go_simp; exact hK _ _ (Below.refl _ _) (by first | trivial | rfl)
        · -- 3: Op.move t0
          intro f a w K hE hA hO hF hK
          have e11 : a.tmps[11]? = some (f 2) := hA 2 (by simp) 11 rfl
          have o0 : a.tmps[0]? = some (_) := (hO 0 (by simp)).trans rfl
          have h2 : (f 2) = .bool true := hF.1
          clear hA hO hF
          go_simp; exact hK _ _ (Below.refl _ _) (by first | trivial | rfl)
        · -- 4: Op.move t3
          intro f a w K hE hA hO hF hK
          have e11 : a.tmps[11]? = some (f 2) := hA 2 (by simp) 11 rfl
          have o3 : a.tmps[3]? = some (_) := (hO 3 (by simp)).trans rfl
          have h2 : (f 2) = .bool true := hF.1
          clear hA hO hF
          go_simp; exact hK _ _ (Below.refl _ _) (by first | trivial | rfl)
        · -- 5: Op.binOp BinOp.sub 3 t13 (const (1:i64)) 3
          intro f a w K hE hA hO hF hK
          have e13 : a.tmps[13]? = some (f 4) := hA 4 (by simp) 13 rfl
          have e11 : a.tmps[11]? = some (f 2) := hA 2 (by simp) 11 rfl
          have h4 : (f 4) = .int .i64 k := hF.1
          have h2 : (f 2) = .bool true := hF.2.1
          clear hA hO hF
          go_simp; exact hK _ _ (Below.refl _ _) (by first | trivial | rfl)
        · -- 6: Op.indexAddr 23 t12 t14
          intro f a w K hE hA hO hF hK
          have e12 : a.tmps[12]? = some (f 3) := hA 3 (by simp) 12 rfl
          have e14 : a.tmps[14]? = some (f 5) := hA 5 (by simp) 14 rfl
          have e11 : a.tmps[11]? = some (f 2) := hA 2 (by simp) 11 rfl
          have h3 : (f 3) = .slice (some ⟨b, o, none⟩) n c := hF.1
          have h5 : (f 5) = .int .i64 ((k : Int) - 1) := hF.2.1
          have h2 : (f 2) = .bool true := hF.2.2.1
          clear hA hO hF
          go_simp; exact hK _ _ (Below.refl _ _) (by first | trivial | rfl)
        · -- 7: Op.load 41 t15
          intro f a w K hE hA hO hF hK
          have e15 : a.tmps[15]? = some (f 6) := hA 6 (by simp) 15 rfl
          have e11 : a.tmps[11]? = some (f 2) := hA 2 (by simp) 11 rfl
          have h6 : (f 6) = .pointer (some ⟨b, o + (k - 1) * 6, none⟩) := hF.1
          have h2 : (f 2) = .bool true := hF.2.1
          clear hA hO hF
          obtain ⟨q0, q1, q2, q3, q4, q5⟩ := (HXC.out.keep fun i => hE.cell (p := ⟨b, i, none⟩) hbl).cells
          go_simp
          exact hK _ _ (Below.refl _ _) rfl
        · -- 8: Op.move t0
          intro f a w K hE hA hO hF hK
          have e11 : a.tmps[11]? = some (f 2) := hA 2 (by simp) 11 rfl
          have o0 : a.tmps[0]? = some (_) := (hO 0 (by simp)).trans rfl
          have h2 : (f 2) = .bool true := hF.1
          clear hA hO hF
          go_simp; exact hK _ _ (Below.refl _ _) (by first | trivial | rfl)
        · -- 9: Op.move t3
          intro f a w K hE hA hO hF hK
          have e11 : a.tmps[11]? = some (f 2) := hA 2 (by simp) 11 rfl
          have o3 : a.tmps[3]? = some (_) := (hO 3 (by simp)).trans rfl
          have h2 : (f 2) = .bool true := hF.1
          clear hA hO hF
          go_simp; exact hK _ _ (Below.refl _ _) (by first | trivial | rfl)
        · -- 10: Op.indexAddr 23 t17 t18
          intro f a w K hE hA hO hF hK
          have e17 : a.tmps[17]? = some (f 8) := hA 8 (by simp) 17 rfl
          have e18 : a.tmps[18]? = some (f 9) := hA 9 (by simp) 18 rfl
          have e11 : a.tmps[11]? = some (f 2) := hA 2 (by simp) 11 rfl
          have h8 : (f 8) = .slice (some ⟨b, o, none⟩) n c := hF.1
          have h9 : (f 9) = .int .i64 k := hF.2.1
          have h2 : (f 2) = .bool true := hF.2.2.1
          clear hA hO hF
          go_simp; exact hK _ _ (Below.refl _ _) (by first | trivial | rfl)
        · -- 11: Op.load 41 t19
          intro f a w K hE hA hO hF hK
          have e19 : a.tmps[19]? = some (f 10) := hA 10 (by simp) 19 rfl
          have e11 : a.tmps[11]? = some (f 2) := hA 2 (by simp) 11 rfl
          have h10 : (f 10) = .pointer (some ⟨b, o + k * 6, none⟩) := hF.1
          have h2 : (f 2) = .bool true := hF.2.1
          clear hA hO hF
          obtain ⟨q0, q1, q2, q3, q4, q5⟩ := (HYC.out.keep fun i => hE.cell (p := ⟨b, i, none⟩) hbl).cells
          go_simp
          exact hK _ _ (Below.refl _ _) rfl
        · -- 12: Op.call { value (Operand.func 60), args := #[t16, t20], argTypes := #[41, 41] }
          intro f a w K hE hA hO hF hK
          have e16 : a.tmps[16]? = some (f 7) := hA 7 (by simp) 16 rfl
          have e20 : a.tmps[20]? = some (f 11) := hA 11 (by simp) 20 rfl
          have e11 : a.tmps[11]? = some (f 2) := hA 2 (by simp) 11 rfl
          have h7 : (f 7) = x.val := hF.1
          have h11 : (f 11) = y.val := hF.2.1
          have h2 : (f 2) = .bool true := hF.2.2.1
          clear hA hO hF
          rw [Tp.val] at h7 h11
          go_simp
          refine (less_any x y _).mono ?_
          rintro e w2 ⟨rfl, hb⟩
          exact ⟨_, rfl, hK _ _ hb rfl⟩
        · -- 13: Op.unOp UnOp.not 4 t21
          intro f a w K hE hA hO hF hK
          have e21 : a.tmps[21]? = some (f 12) := hA 12 (by simp) 21 rfl
          have e11 : a.tmps[11]? = some (f 2) := hA 2 (by simp) 11 rfl
          have h12 : (f 12) = .bool (ltB x y) := hF.1
          have h2 : (f 2) = .bool true := hF.2.1
          clear hA hO hF
          go_simp; exact hK _ _ (Below.refl _ _) (by first | trivial | rfl)
        · -- 14: Op.pick t11 t22 (const (Value.bool false))
          intro f a w K hE hA hO hF hK
          have e11 : a.tmps[11]? = some (f 2) := hA 2 (by simp) 11 rfl
          have e22 : a.tmps[22]? = some (f 13) := hA 13 (by simp) 22 rfl
          have h2 : (f 2) = .bool true := hF.1
          have h13 : (f 13) = .bool (!ltB x y) := hF.2.1
          clear hA hO hF
          go_simp; exact hK _ _ (Below.refl _ _) (by first | trivial | rfl)
        intro f w1 hE hF
        have g0 : (f 0) = .int .i64 k := hF.1
        have g1 : (f 1) = .bool true := hF.2.1
        have g2 : (f 2) = .bool true := hF.2.2.1
        have g3 : (f 3) = .slice (some ⟨b, o, none⟩) n c := hF.2.2.2.1
        have g4 : (f 4) = .int .i64 k := hF.2.2.2.2.1
        have g5 : (f 5) = .int .i64 ((k : Int) - 1) := hF.2.2.2.2.2.1
        have g6 : (f 6) = .pointer (some ⟨b, o + (k - 1) * 6, none⟩) := hF.2.2.2.2.2.2.1
        have g7 : (f 7) = x.val := hF.2.2.2.2.2.2.2.1
        have g8 : (f 8) = .slice (some ⟨b, o, none⟩) n c := hF.2.2.2.2.2.2.2.2.1
        have g9 : (f 9) = .int .i64 k := hF.2.2.2.2.2.2.2.2.2.1
        have g10 : (f 10) = .pointer (some ⟨b, o + k * 6, none⟩) := hF.2.2.2.2.2.2.2.2.2.2.1
        have g11 : (f 11) = y.val := hF.2.2.2.2.2.2.2.2.2.2.2.1
        have g12 : (f 12) = .bool (ltB x y) := hF.2.2.2.2.2.2.2.2.2.2.2.2.1
        have g13 : (f 13) = .bool (!ltB x y) := hF.2.2.2.2.2.2.2.2.2.2.2.2.2.1
        have g14 : (f 14) = .bool (!ltB x y) := hF.2.2.2.2.2.2.2.2.2.2.2.2.2.2.1
        simp only [is4D, Fr.puts, Act.put, List.setIfInBounds_toArray, List.set_cons_zero, List.set_cons_succ]
        clear hF
        simp only [is4S, List.length_cons, List.length_nil, Nat.reduceAdd, List.drop_succ_cons, List.drop_nil]
        rw [g14]
        clear g0 g1 g2 g3 g4 g5 g6 g7 g8 g9 g10 g11 g12 g13 g14 s1 s2 s3 s4
        have hb1 : Below w.heap.size w w1 := hbel.trans (hE.mono hbel.size)
        clear hE
        cases hcmp : ltB x y with
        | true =>
          have HCM := Lib.hid hcmp
          clear hcmp
          go_wp2
          go_roundg (n - (k + 1))
          case measure => omega
          case rel => exact ⟨k + 1, by omega, Nat.le_refl _, by go_num, hb1, Lib.hid (by rw [HST.out, HT.out, HCM.out]; simp)⟩
        | false =>
          have hfin : isB xs = false := isB_false (k := k) (by rw [HST.out, HT.out, hcmp]; simp [h0])
          have HF := Lib.hid hfin
          clear hfin hcmp
          go_wp2
          go_ret
          rw [HF.out]
          exact ⟨rfl, hb1⟩
    · go_wp2
      go_ret
      have h1 := HT.out
      rw [List.take_of_length_le (by rw [HL.out]; omega)] at h1
      rw [h1]
      exact ⟨rfl, hbel⟩
end Is
end Go.Proofs.Ytdckfddlcmkdlaa
