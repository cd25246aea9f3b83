/-
  entaillaw3.awake: what the document fixes.
-/
import Derived.Test.YtdckfddlcmkdlaaHas
import Derived.Test.YtdckfddlcmkdlaaTames
namespace Go.Proofs.Ytdckfddlcmkdlaa
open Go.RowKit
namespace Awake
open Cmp TO Rd Rset

theorem lt01 : ltB (Tame.tame 0) (Tame.tame 1) = true := by decide +kernel

section
variable {a b : Tp} (h : ltB a b = true)
include h
theorem p_rises : Rises [a, b] := by simp [Rises, h]
theorem p_of : ofL [b, a, b] = [a, b] := ofL_eq (p_rises h) fun x => by
  simp
  exact fun e => .inr e
theorem p_isn : Is.isB [b, a] = false := by
  cases e : Is.isB [b, a] with
  | false => rfl
  | true =>
    have := (Is.isB_iff _).1 e
    simp [Rises, lt_asymm h] at this
theorem p_is : Is.isB [a, b] = true := (Is.isB_iff _).2 (p_rises h)
theorem p_plus : ofL ([a, b] ++ [a]) = [a, b] := ofL_eq (p_rises h) fun x => by
  simp
  constructor
  · rintro (rfl | rfl) <;> simp
  · rintro (rfl | rfl | rfl) <;> simp
theorem p_minus : minus [a, b] [a] = [b] := (rises_minus _ _).ext (by simp [Rises]) fun x => by
  rw [mem_minus]
  have := lt_ne h
  simp
  constructor
  · rintro ⟨rfl | rfl, h2⟩
    · exact absurd rfl h2
    · rfl
  · rintro rfl
    exact ⟨.inr rfl, fun e => this e.symm⟩
theorem p_drop : minus [a, b] [b] = [a] := (rises_minus _ _).ext (by simp [Rises]) fun x => by
  rw [mem_minus]
  have := lt_ne h
  simp
  constructor
  · rintro ⟨rfl | rfl, h2⟩
    · rfl
    · exact absurd rfl h2
  · rintro rfl
    exact ⟨.inl rfl, this⟩
end

theorem p_add {a b : Tp} : minus [b] [a, b] = [] := (rises_minus _ _).ext (by simp [Rises]) fun x => by
  rw [mem_minus]
  simp
  exact fun e _ => e
theorem at_lit (w : World) (T : TypeId) (xs : List Tp) (N : Nat) (hN : w.heap.size = N) (h1 : xs.length ≤ 100) : At (w.alloc (.cells (flat xs).toArray T)) (some ⟨N, 0, none⟩) xs.length xs.length xs := by
  subst hN
  exact ⟨rfl, Nat.le_refl _, by unfold maxLen; omega, fun e => (by cases e), fun i x hx => ⟨w.heap.size, 0, rfl, by simp, fun j v hv => by
    rw [Nat.zero_add, (Mm.Bk.new w T (flat xs)).cell]
    exact flat_at xs i x hx j v hv⟩⟩
theorem alloc_size (w : World) (o : Obj) : (w.alloc o).heap.size = w.heap.size + 1 := by simp

theorem keepAt {w w' : World} {v : Value} {n : Nat} {xs : List Tp} (hb : Below w.heap.size w w') (h : ∃ g, v = .slice (some ⟨g, 0, none⟩) n n ∧ At w (some ⟨g, 0, none⟩) n n xs) : ∃ g, v = .slice (some ⟨g, 0, none⟩) n n ∧ At w' (some ⟨g, 0, none⟩) n n xs := by
  obtain ⟨g, e, ha⟩ := h
  exact ⟨g, e, ha.ext hb⟩

def awakeS (A4 : Option Addr) (c4 : Nat) (A5 : Option Addr) (c5 b6 o6 c6 : Nat) (x y : Tp) : List Fr.Sp := [
  ⟨[], [3], fun _ v _ => v = .slice A4 2 c4⟩,
  ⟨[0], [], fun _ v _ => v = .int .i64 2⟩,
  ⟨[1], [], fun _ v _ => v = .bool true⟩,
  ⟨[2], [], fun _ v _ => v = .bool true⟩,
  ⟨[3], [3], fun _ v _ => v = .slice A4 2 c4⟩,
  ⟨[4, 3], [], fun _ v _ => v = .bool true⟩,
  ⟨[3, 5], [], fun _ v _ => v = .bool true⟩,
  ⟨[6], [], fun _ v _ => v = .bool true⟩,
  ⟨[7], [3], fun _ v _ => v = .slice A4 2 c4⟩,
  ⟨[7], [1], fun _ v _ => v = x.val⟩,
  ⟨[8, 9, 7], [], fun _ v _ => v = .bool true⟩,
  ⟨[7, 10], [], fun _ v _ => v = .bool true⟩,
  ⟨[11], [], fun _ v _ => v = .bool true⟩,
  ⟨[12], [2], fun _ v _ => v = y.val⟩,
  ⟨[12], [1], fun _ v _ => v = x.val⟩,
  ⟨[13, 14, 12], [], fun _ v w => ∃ g, v = .slice (some ⟨g, 0, none⟩) 2 2 ∧ At w (some ⟨g, 0, none⟩) 2 2 [y, x]⟩,
  ⟨[15, 12], [], fun _ v _ => v = .bool false⟩,
  ⟨[16, 12], [], fun _ v _ => v = .bool true⟩,
  ⟨[12, 17], [], fun _ v _ => v = .bool true⟩,
  ⟨[18], [], fun _ v _ => v = .bool true⟩,
  ⟨[19], [3], fun _ v _ => v = .slice A4 2 c4⟩,
  ⟨[19], [1], fun _ v _ => v = x.val⟩,
  ⟨[21, 19], [], fun _ v w => ∃ g, v = .slice (some ⟨g, 0, none⟩) 1 1 ∧ At w (some ⟨g, 0, none⟩) 1 1 [x]⟩,
  ⟨[20, 22, 19], [], fun _ v _ => ∃ A c, v = .slice A 2 c⟩,
  ⟨[23, 19], [], fun _ v _ => v = .int .i64 2⟩,
  ⟨[24, 19], [], fun _ v _ => v = .bool true⟩,
  ⟨[19, 25], [], fun _ v _ => v = .bool true⟩,
  ⟨[26], [], fun _ v _ => v = .bool true⟩,
  ⟨[27], [3], fun _ v _ => v = .slice A4 2 c4⟩,
  ⟨[27], [1], fun _ v _ => v = x.val⟩,
  ⟨[29, 27], [], fun _ v w => ∃ g, v = .slice (some ⟨g, 0, none⟩) 1 1 ∧ At w (some ⟨g, 0, none⟩) 1 1 [x]⟩,
  ⟨[28, 30, 27], [], fun _ v _ => ∃ A c, v = .slice A 1 c⟩,
  ⟨[31, 27], [], fun _ v _ => v = .int .i64 1⟩,
  ⟨[32, 27], [], fun _ v _ => v = .bool true⟩,
  ⟨[27, 33], [], fun _ v _ => v = .bool true⟩,
  ⟨[34], [], fun _ v _ => v = .bool true⟩,
  ⟨[35], [4], fun _ v _ => v = .slice A5 0 c5⟩,
  ⟨[36, 35], [], fun _ v _ => v = .int .i64 0⟩,
  ⟨[37, 35], [], fun _ v _ => v = .bool true⟩,
  ⟨[35, 38], [], fun _ v _ => v = .bool true⟩,
  ⟨[39], [], fun _ v _ => v = .bool true⟩,
  ⟨[40], [5], fun _ v _ => v = .slice (some ⟨b6, o6, none⟩) 1 c6⟩,
  ⟨[41, 40], [], fun _ v _ => v = .int .i64 1⟩,
  ⟨[42, 40], [], fun _ v _ => v = .bool true⟩,
  ⟨[40, 43], [], fun _ v _ => v = .bool true⟩,
  ⟨[44], [], fun _ v _ => v = .bool true⟩,
  ⟨[45], [5], fun _ v _ => v = .slice (some ⟨b6, o6, none⟩) 1 c6⟩,
  ⟨[46, 45], [], fun _ v _ => v = .pointer (some ⟨b6, o6, none⟩)⟩,
  ⟨[47, 45], [], fun _ v _ => v = x.val⟩,
  ⟨[45], [1], fun _ v _ => v = x.val⟩,
  ⟨[48, 49, 45], [], fun _ v _ => v = .bool true⟩,
  ⟨[45, 50], [], fun _ v _ => v = .bool true⟩,
  ⟨[51], [], fun _ v _ => v = .bool true⟩]
def awakeD : List (Option Nat) := [some 20, some 21, some 22, some 23, some 24, some 25, some 26, some 27, some 28, some 29, some 30, some 31, some 32, some 33, some 34, some 35, some 36, some 37, some 38, some 39, some 40, some 41, some 42, some 43, some 44, some 45, some 46, some 47, some 48, some 49, some 50, some 51, some 52, some 53, some 54, some 55, some 56, some 57, some 58, some 59, some 60, some 61, some 62, some 63, some 64, some 65, some 66, some 67, some 68, some 69, some 70, some 71, some 0]
theorem awakeSt (A4 : Option Addr) (c4 : Nat) (A5 : Option Addr) (c5 b6 o6 c6 : Nat) (x y : Tp) : Fr.Stables (awakeS A4 c4 A5 c5 b6 o6 c6 x y) :=
  ⟨fun _ _ _ _ _ h => h, fun _ _ _ _ _ h => h, fun _ _ _ _ _ h => h, fun _ _ _ _ _ h => h, fun _ _ _ _ _ h => h, fun _ _ _ _ _ h => h, fun _ _ _ _ _ h => h, fun _ _ _ _ _ h => h, fun _ _ _ _ _ h => h, fun _ _ _ _ _ h => h, fun _ _ _ _ _ h => h, fun _ _ _ _ _ h => h, fun _ _ _ _ _ h => h, fun _ _ _ _ _ h => h, fun _ _ _ _ _ h => h, fun _ _ _ _ hb h => Awake.keepAt hb h, fun _ _ _ _ _ h => h, fun _ _ _ _ _ h => h, fun _ _ _ _ _ h => h, fun _ _ _ _ _ h => h, fun _ _ _ _ _ h => h, fun _ _ _ _ _ h => h, fun _ _ _ _ hb h => Awake.keepAt hb h, fun _ _ _ _ _ h => h, fun _ _ _ _ _ h => h, fun _ _ _ _ _ h => h, fun _ _ _ _ _ h => h, fun _ _ _ _ _ h => h, fun _ _ _ _ _ h => h, fun _ _ _ _ _ h => h, fun _ _ _ _ hb h => Awake.keepAt hb h, fun _ _ _ _ _ h => h, fun _ _ _ _ _ h => h, fun _ _ _ _ _ h => h, fun _ _ _ _ _ h => h, fun _ _ _ _ _ h => h, fun _ _ _ _ _ h => h, fun _ _ _ _ _ h => h, fun _ _ _ _ _ h => h, fun _ _ _ _ _ h => h, fun _ _ _ _ _ h => h, fun _ _ _ _ _ h => h, fun _ _ _ _ _ h => h, fun _ _ _ _ _ h => h, fun _ _ _ _ _ h => h, fun _ _ _ _ _ h => h, fun _ _ _ _ _ h => h, fun _ _ _ _ _ h => h, fun _ _ _ _ _ h => h, fun _ _ _ _ _ h => h, fun _ _ _ _ _ h => h, fun _ _ _ _ _ h => h, fun _ _ _ _ _ h => h, trivial⟩

set_option maxRecDepth 100000 in
set_option maxHeartbeats 2000000 in
theorem awake_any (w : World) : Calls Try.prog 19 #[] w fun e w' => e = .returned (.bool true) ∧ Below w.heap.size w w' := by
  have hlt := lt01
  have h0 := Tame.tame_any 0
  have h1 := Tame.tame_any 1
  generalize Tame.tame 0 = x at *
  generalize Tame.tame 1 = y at *
  have HLT := Lib.hid hlt
  unfold Tp.val at h0 h1
  have H0 := Lib.hid h0
  have H1 := Lib.hid h1
  clear h0 h1 hlt
  go_enter Try.func19, Try.ntmps19
  go_wp2_with fail
  refine (H0.out _).mono ?_
  rintro e w0 ⟨rfl, hb1⟩
  go_wp2_with fail
  refine (H1.out _).mono ?_
  rintro e w2 ⟨rfl, hb2⟩
  have hb12 : Below w.heap.size w w2 := hb1.trans (hb2.mono hb1.size)
  clear hb1 hb2 H0 H1
  go_wp2_with fail
  have hk1 : Mm.Bk ((w2.alloc (.cells x.enc.toArray 41)).alloc (.cells y.enc.toArray 41)) w2.heap.size 41 x.enc := (Mm.Bk.new w2 _ _).alloc _
  have hk2 : Mm.Bk ((w2.alloc (.cells x.enc.toArray 41)).alloc (.cells y.enc.toArray 41)) (w2.heap.size + 1) 41 y.enc := by
    have := Mm.Bk.new (w2.alloc (.cells x.enc.toArray 41)) 41 y.enc
    rwa [alloc_size] at this
  have hb3 : Below w.heap.size w ((w2.alloc (.cells x.enc.toArray 41)).alloc (.cells y.enc.toArray 41)) := (hb12.alloc hb12.size _).alloc (by rw [alloc_size]; exact Nat.le_succ_of_le hb12.size) _
  have hsz : ((w2.alloc (.cells x.enc.toArray 41)).alloc (.cells y.enc.toArray 41)).heap.size = w2.heap.size + 1 + 1 := by rw [alloc_size, alloc_size]
  unfold Tp.enc at hk1 hk2 hb3 hsz
  generalize (w2.alloc (.cells [Value.string x.ot, .string x.oi, .string x.rl, .string x.st, .string x.si, .string x.sr].toArray 41)).alloc (.cells [Value.string y.ot, .string y.oi, .string y.rl, .string y.st, .string y.si, .string y.sr].toArray 41) = w3 at *
  have hne : w2.heap.size ≠ w2.heap.size + 1 := by omega
  generalize w2.heap.size + 1 = p2 at *
  generalize w2.heap.size = p1 at *
  clear hb12
  have HA := Lib.hid (at_lit w3 41 [y, x, y] (p2 + 1) hsz (Nat.le_add_left _ _))
  have hof := Lib.hid (RowsOf.of_any (some ⟨p2 + 1, 0, none⟩) 3 3 [y, x, y] _ HA.out (by decide))
  refine hof.out.mono ?_
  rintro e w4 ⟨A4, n4, c4, rfl, ha4, hb4⟩
  rw [p_of HLT.out] at ha4
  have hl4 := ha4.len
  simp only [List.length_cons, List.length_nil, Nat.reduceAdd] at hl4
  subst hl4
  have hb34 : Below w3.heap.size w3 w4 := ((Below.refl _ _).alloc (Nat.le_refl _) _).trans (hb4.mono (by rw [alloc_size]; exact Nat.le_succ _))
  have HK1 := Lib.hid (Mm.Bk.ext (cs := x.enc) hk1 hb34)
  have hk2' := Mm.Bk.ext (cs := y.enc) hk2 hb34
  have hbw4 : Below w.heap.size w w4 := hb3.trans (hb34.mono hb3.size)
  obtain ⟨q0, q1, q2, q3, q4, q5⟩ := Tp.cells hk2'
  have HK2 := Lib.hid hk2'
  have HA4 := Lib.hid ha4
  have HB1 := Lib.hid (at_lit w4 41 [y] _ rfl (Nat.le_add_left _ _))
  have HA41 := Lib.hid (HA4.out.ext (((Below.refl _ _).alloc (Nat.le_refl _) (.cells (flat [y]).toArray 41))))
  clear HA hof hb4 hb34 hk1 hk2 hk2' hsz hb3 ha4
  go_wp2_with fail
  have hdf := Lib.hid (diff_any A4 _ 2 c4 1 1 [x, y] [y] _ HA41.out HB1.out (by decide) (by decide))
  refine hdf.out.mono ?_
  rintro e w5 ⟨A5, n5, c5, A6, n6, c6, rfl, ha5, ha6, hb5⟩
  rw [p_add] at ha5
  rw [p_drop HLT.out] at ha6
  have hl5 := ha5.len
  have hl6 := ha6.len
  simp only [List.length_cons, List.length_nil, Nat.reduceAdd] at hl5 hl6
  subst hl5
  subst hl6
  obtain ⟨b6, o6, rfl, hl6, hc6⟩ := ha6.at_ 0 x rfl
  have hb45 : Below w4.heap.size w4 w5 := ((Below.refl _ _).alloc (Nat.le_refl _) _).trans (hb5.mono (by rw [alloc_size]; exact Nat.le_succ _))
  have hbw5 : Below w.heap.size w w5 := hbw4.trans (hb45.mono hbw4.size)
  replace HA4 := Lib.hid (HA4.out.ext hb45)
  replace HK1 := Lib.hid (HK1.out.ext hb45)
  replace HK2 := Lib.hid (HK2.out.ext hb45)
  have HC6 : Hid (Rd.Cs w5 b6 o6 x) := Lib.hid (by simpa using hc6)
  clear q0 q1 q2 q3 q4 q5 HB1 HA41 hdf hb5 hbw4 hb45 hc6 ha5 ha6
  go_wp2_with fail
  have HL6 := Lib.hid hl6
  clear hl6
  refine Fr.wp_region_free (by kernel_rfl) (awakeS A4 c4 A5 c5 b6 o6 c6 x y) awakeD (by kernel_rfl) (by kernel_rfl) (awakeSt _ _ _ _ _ _ _ _ _) ?_ ?_
  refine ⟨?_, ?_, ?_, ?_, ?_, ?_, ?_, ?_, ?_, ?_, ?_, ?_, ?_, ?_, ?_, ?_, ?_, ?_, ?_, ?_, ?_, ?_, ?_, ?_, ?_, ?_, ?_, ?_, ?_, ?_, ?_, ?_, ?_, ?_, ?_, ?_, ?_, ?_, ?_, ?_, ?_, ?_, ?_, ?_, ?_, ?_, ?_, ?_, ?_, ?_, ?_, ?_, ?_, trivial⟩
  · -- 0: Op.move t3
    intro f a w K hE hA hO hF hK
    have o3 : a.tmps[3]? = some (.slice A4 2 c4) := (hO 3 (by simp)).trans rfl
    clear hA hO hF
    go_simp; exact hK _ _ (Below.refl _ _) (by first | trivial | rfl)
  · -- 1: Op.call { builtin len, args := #[t20], argTypes := #[23] }
    intro f a w K hE hA hO hF hK
    have e20 : a.tmps[20]? = some (f 0) := hA 0 (by simp) 20 rfl
    have h0 : (f 0) = .slice A4 2 c4 := hF.1
    clear hA hO hF
    go_simp; exact hK _ _ (Below.refl _ _) (by first | trivial | rfl)
  · -- 2: Op.binOp BinOp.eql 3 t21 (const (2:i64)) 3
    intro f a w K hE hA hO hF hK
    have e21 : a.tmps[21]? = some (f 1) := hA 1 (by simp) 21 rfl
    have h1 : (f 1) = .int .i64 2 := hF.1
    clear hA hO hF
    go_simp; exact hK _ _ (Below.refl _ _) (by first | trivial | rfl)
  · -- 3: Op.move t22
    intro f a w K hE hA hO hF hK
    have e22 : a.tmps[22]? = some (f 2) := hA 2 (by simp) 22 rfl
    have h2 : (f 2) = .bool true := hF.1
    clear hA hO hF
    go_simp; exact hK _ _ (Below.refl _ _) (by first | trivial | rfl)
  · -- 4: Op.move t3
    intro f a w K hE hA hO hF hK
    have e23 : a.tmps[23]? = some (f 3) := hA 3 (by simp) 23 rfl
    have o3 : a.tmps[3]? = some (.slice A4 2 c4) := (hO 3 (by simp)).trans rfl
    have h3 : (f 3) = .bool true := hF.1
    clear hA hO hF
    go_simp; exact hK _ _ (Below.refl _ _) (by first | trivial | rfl)
  · -- 5: Op.call { value (Operand.func 22), args := #[t24], argTypes := #[23] }
    intro f a w K hE hA hO hF hK
    have e24 : a.tmps[24]? = some (f 4) := hA 4 (by simp) 24 rfl
    have e23 : a.tmps[23]? = some (f 3) := hA 3 (by simp) 23 rfl
    have h4 : (f 4) = .slice A4 2 c4 := hF.1
    have h3 : (f 3) = .bool true := hF.2.1
    clear hA hO hF
    go_simp
    refine (Is.is_any A4 2 c4 _ _ (HA4.out.ext hE) (by omega)).mono ?_
    rintro e w2 ⟨rfl, hb⟩
    exact ⟨_, rfl, hK _ _ hb (by rw [p_is HLT.out])⟩
  · -- 6: Op.pick t23 t25 (const (Value.bool false))
    intro f a w K hE hA hO hF hK
    have e23 : a.tmps[23]? = some (f 3) := hA 3 (by simp) 23 rfl
    have e25 : a.tmps[25]? = some (f 5) := hA 5 (by simp) 25 rfl
    have h3 : (f 3) = .bool true := hF.1
    have h5 : (f 5) = .bool true := hF.2.1
    clear hA hO hF
    go_simp; exact hK _ _ (Below.refl _ _) (by first | trivial | rfl)
  · -- 7: Op.move t26
    intro f a w K hE hA hO hF hK
    have e26 : a.tmps[26]? = some (f 6) := hA 6 (by simp) 26 rfl
    have h6 : (f 6) = .bool true := hF.1
    clear hA hO hF
    go_simp; exact hK _ _ (Below.refl _ _) (by first | trivial | rfl)
  · -- 8: Op.move t3
    intro f a w K hE hA hO hF hK
    have e27 : a.tmps[27]? = some (f 7) := hA 7 (by simp) 27 rfl
    have o3 : a.tmps[3]? = some (.slice A4 2 c4) := (hO 3 (by simp)).trans rfl
    have h7 : (f 7) = .bool true := hF.1
    clear hA hO hF
    go_simp; exact hK _ _ (Below.refl _ _) (by first | trivial | rfl)
  · -- 9: Op.load 41 t1
    intro f a w K hE hA hO hF hK
    have e27 : a.tmps[27]? = some (f 7) := hA 7 (by simp) 27 rfl
    have o1 : a.tmps[1]? = some (.pointer (some ⟨p1, 0, none⟩)) := (hO 1 (by simp)).trans rfl
    have h7 : (f 7) = .bool true := hF.1
    clear hA hO hF
    obtain ⟨q0, q1, q2, q3, q4, q5⟩ := Tp.cells (HK1.out.ext hE)
    go_simp
    exact hK _ _ (Below.refl _ _) rfl
  · -- 10: Op.call { value (Operand.func 26), args := #[t28, t29], argTypes := #[23, 41] }
    intro f a w K hE hA hO hF hK
    have e28 : a.tmps[28]? = some (f 8) := hA 8 (by simp) 28 rfl
    have e29 : a.tmps[29]? = some (f 9) := hA 9 (by simp) 29 rfl
    have e27 : a.tmps[27]? = some (f 7) := hA 7 (by simp) 27 rfl
    have h8 : (f 8) = .slice A4 2 c4 := hF.1
    have h9 : (f 9) = x.val := hF.2.1
    have h7 : (f 7) = .bool true := hF.2.2.1
    clear hA hO hF
    rw [Tp.val] at h9
    go_simp
    refine (Has.has_any A4 2 c4 _ x _ (HA4.out.ext hE) (p_rises HLT.out) (by omega)).mono ?_
    rintro e w2 ⟨rfl, hb⟩
    exact ⟨_, rfl, hK _ _ hb (by simp)⟩
  · -- 11: Op.pick t27 t30 (const (Value.bool false))
    intro f a w K hE hA hO hF hK
    have e27 : a.tmps[27]? = some (f 7) := hA 7 (by simp) 27 rfl
    have e30 : a.tmps[30]? = some (f 10) := hA 10 (by simp) 30 rfl
    have h7 : (f 7) = .bool true := hF.1
    have h10 : (f 10) = .bool true := hF.2.1
    clear hA hO hF
    go_simp; exact hK _ _ (Below.refl _ _) (by first | trivial | rfl)
  · -- 12: Op.move t31
    intro f a w K hE hA hO hF hK
    have e31 : a.tmps[31]? = some (f 11) := hA 11 (by simp) 31 rfl
    have h11 : (f 11) = .bool true := hF.1
    clear hA hO hF
    go_simp; exact hK _ _ (Below.refl _ _) (by first | trivial | rfl)
  · -- 13: Op.load 41 t2
    intro f a w K hE hA hO hF hK
    have e32 : a.tmps[32]? = some (f 12) := hA 12 (by simp) 32 rfl
    have o2 : a.tmps[2]? = some (.pointer (some ⟨p2, 0, none⟩)) := (hO 2 (by simp)).trans rfl
    have h12 : (f 12) = .bool true := hF.1
    clear hA hO hF
    obtain ⟨q0, q1, q2, q3, q4, q5⟩ := Tp.cells (HK2.out.ext hE)
    go_simp
    exact hK _ _ (Below.refl _ _) rfl
  · -- 14: Op.load 41 t1
    intro f a w K hE hA hO hF hK
    have e32 : a.tmps[32]? = some (f 12) := hA 12 (by simp) 32 rfl
    have o1 : a.tmps[1]? = some (.pointer (some ⟨p1, 0, none⟩)) := (hO 1 (by simp)).trans rfl
    have h12 : (f 12) = .bool true := hF.1
    clear hA hO hF
    obtain ⟨q0, q1, q2, q3, q4, q5⟩ := Tp.cells (HK1.out.ext hE)
    go_simp
    exact hK _ _ (Below.refl _ _) rfl
  · -- 15: Op.buildSlice 23 2 #[(0, t33), (1, t34)]
    intro f a w K hE hA hO hF hK
    have e33 : a.tmps[33]? = some (f 13) := hA 13 (by simp) 33 rfl
    have e34 : a.tmps[34]? = some (f 14) := hA 14 (by simp) 34 rfl
    have e32 : a.tmps[32]? = some (f 12) := hA 12 (by simp) 32 rfl
    have h13 : (f 13) = y.val := hF.1
    have h14 : (f 14) = x.val := hF.2.1
    have h12 : (f 12) = .bool true := hF.2.2.1
    clear hA hO hF
    rw [Tp.val] at h13 h14
    go_simp
    exact hK _ _ ((Below.refl _ _).alloc (Nat.le_refl _) _) ⟨w.heap.size, rfl, at_lit w _ [y, x] _ rfl (Nat.le_add_left _ _)⟩
  · -- 16: Op.call { value (Operand.func 22), args := #[t35], argTypes := #[23] }
    intro f a w K hE hA hO hF hK
    have e35 : a.tmps[35]? = some (f 15) := hA 15 (by simp) 35 rfl
    have e32 : a.tmps[32]? = some (f 12) := hA 12 (by simp) 32 rfl
    have h15 : ∃ g, (f 15) = .slice (some ⟨g, 0, none⟩) 2 2 ∧ At w (some ⟨g, 0, none⟩) 2 2 [y, x] := hF.1
    have h12 : (f 12) = .bool true := hF.2.1
    clear hA hO hF
    obtain ⟨g, h15, hat⟩ := h15
    go_simp
    refine (Is.is_any _ 2 2 _ _ hat (by omega)).mono ?_
    rintro e w2 ⟨rfl, hb⟩
    exact ⟨_, rfl, hK _ _ hb (by rw [p_isn HLT.out])⟩
  · -- 17: Op.unOp UnOp.not 4 t36
    intro f a w K hE hA hO hF hK
    have e36 : a.tmps[36]? = some (f 16) := hA 16 (by simp) 36 rfl
    have e32 : a.tmps[32]? = some (f 12) := hA 12 (by simp) 32 rfl
    have h16 : (f 16) = .bool false := hF.1
    have h12 : (f 12) = .bool true := hF.2.1
    clear hA hO hF
    go_simp; exact hK _ _ (Below.refl _ _) (by first | trivial | rfl)
  · -- 18: Op.pick t32 t37 (const (Value.bool false))
    intro f a w K hE hA hO hF hK
    have e32 : a.tmps[32]? = some (f 12) := hA 12 (by simp) 32 rfl
    have e37 : a.tmps[37]? = some (f 17) := hA 17 (by simp) 37 rfl
    have h12 : (f 12) = .bool true := hF.1
    have h17 : (f 17) = .bool true := hF.2.1
    clear hA hO hF
    go_simp; exact hK _ _ (Below.refl _ _) (by first | trivial | rfl)
  · -- 19: Op.move t38
    intro f a w K hE hA hO hF hK
    have e38 : a.tmps[38]? = some (f 18) := hA 18 (by simp) 38 rfl
    have h18 : (f 18) = .bool true := hF.1
    clear hA hO hF
    go_simp; exact hK _ _ (Below.refl _ _) (by first | trivial | rfl)
  · -- 20: Op.move t3
    intro f a w K hE hA hO hF hK
    have e39 : a.tmps[39]? = some (f 19) := hA 19 (by simp) 39 rfl
    have o3 : a.tmps[3]? = some (.slice A4 2 c4) := (hO 3 (by simp)).trans rfl
    have h19 : (f 19) = .bool true := hF.1
    clear hA hO hF
    go_simp; exact hK _ _ (Below.refl _ _) (by first | trivial | rfl)
  · -- 21: Op.load 41 t1
    intro f a w K hE hA hO hF hK
    have e39 : a.tmps[39]? = some (f 19) := hA 19 (by simp) 39 rfl
    have o1 : a.tmps[1]? = some (.pointer (some ⟨p1, 0, none⟩)) := (hO 1 (by simp)).trans rfl
    have h19 : (f 19) = .bool true := hF.1
    clear hA hO hF
    obtain ⟨q0, q1, q2, q3, q4, q5⟩ := Tp.cells (HK1.out.ext hE)
    go_simp
    exact hK _ _ (Below.refl _ _) rfl
  · -- 22: Op.buildSlice 23 1 #[(0, t41)]
    intro f a w K hE hA hO hF hK
    have e41 : a.tmps[41]? = some (f 21) := hA 21 (by simp) 41 rfl
    have e39 : a.tmps[39]? = some (f 19) := hA 19 (by simp) 39 rfl
    have h21 : (f 21) = x.val := hF.1
    have h19 : (f 19) = .bool true := hF.2.1
    clear hA hO hF
    rw [Tp.val] at h21
    go_simp
    exact hK _ _ ((Below.refl _ _).alloc (Nat.le_refl _) _) ⟨w.heap.size, rfl, at_lit w _ [x] _ rfl (Nat.le_add_left _ _)⟩
  · -- 23: Op.call { value (Operand.func 18), args := #[t40, t42], argTypes := #[23, 23] }
    intro f a w K hE hA hO hF hK
    have e40 : a.tmps[40]? = some (f 20) := hA 20 (by simp) 40 rfl
    have e42 : a.tmps[42]? = some (f 22) := hA 22 (by simp) 42 rfl
    have e39 : a.tmps[39]? = some (f 19) := hA 19 (by simp) 39 rfl
    have h20 : (f 20) = .slice A4 2 c4 := hF.1
    have h22 : ∃ g, (f 22) = .slice (some ⟨g, 0, none⟩) 1 1 ∧ At w (some ⟨g, 0, none⟩) 1 1 [x] := hF.2.1
    have h19 : (f 19) = .bool true := hF.2.2.1
    clear hA hO hF
    obtain ⟨g, h22, hat⟩ := h22
    go_simp
    refine (plus_any _ _ 2 _ 1 _ _ _ _ (HA4.out.ext hE) hat (by omega) (by omega)).mono ?_
    rintro e w2 ⟨A7, n7, c7, rfl, ha7, hb⟩
    rw [p_plus HLT.out] at ha7
    have hl := ha7.len
    simp only [List.length_cons, List.length_nil] at hl
    subst hl
    exact ⟨_, rfl, hK _ _ hb ⟨A7, c7, rfl⟩⟩
  · -- 24: Op.call { builtin len, args := #[t43], argTypes := #[23] }
    intro f a w K hE hA hO hF hK
    have e43 : a.tmps[43]? = some (f 23) := hA 23 (by simp) 43 rfl
    have e39 : a.tmps[39]? = some (f 19) := hA 19 (by simp) 39 rfl
    have h23 : ∃ A c, (f 23) = .slice A 2 c := hF.1
    have h19 : (f 19) = .bool true := hF.2.1
    clear hA hO hF
    obtain ⟨A7, c7, h23⟩ := h23
    go_simp
    exact hK _ _ (Below.refl _ _) rfl
  · -- 25: Op.binOp BinOp.eql 3 t44 (const (2:i64)) 3
    intro f a w K hE hA hO hF hK
    have e44 : a.tmps[44]? = some (f 24) := hA 24 (by simp) 44 rfl
    have e39 : a.tmps[39]? = some (f 19) := hA 19 (by simp) 39 rfl
    have h24 : (f 24) = .int .i64 2 := hF.1
    have h19 : (f 19) = .bool true := hF.2.1
    clear hA hO hF
    go_simp; exact hK _ _ (Below.refl _ _) (by first | trivial | rfl)
  · -- 26: Op.pick t39 t45 (const (Value.bool false))
    intro f a w K hE hA hO hF hK
    have e39 : a.tmps[39]? = some (f 19) := hA 19 (by simp) 39 rfl
    have e45 : a.tmps[45]? = some (f 25) := hA 25 (by simp) 45 rfl
    have h19 : (f 19) = .bool true := hF.1
    have h25 : (f 25) = .bool true := hF.2.1
    clear hA hO hF
    go_simp; exact hK _ _ (Below.refl _ _) (by first | trivial | rfl)
  · -- 27: Op.move t46
    intro f a w K hE hA hO hF hK
    have e46 : a.tmps[46]? = some (f 26) := hA 26 (by simp) 46 rfl
    have h26 : (f 26) = .bool true := hF.1
    clear hA hO hF
    go_simp; exact hK _ _ (Below.refl _ _) (by first | trivial | rfl)
  · -- 28: Op.move t3
    intro f a w K hE hA hO hF hK
    have e47 : a.tmps[47]? = some (f 27) := hA 27 (by simp) 47 rfl
    have o3 : a.tmps[3]? = some (.slice A4 2 c4) := (hO 3 (by simp)).trans rfl
    have h27 : (f 27) = .bool true := hF.1
    clear hA hO hF
    go_simp; exact hK _ _ (Below.refl _ _) (by first | trivial | rfl)
  · -- 29: Op.load 41 t1
    intro f a w K hE hA hO hF hK
    have e47 : a.tmps[47]? = some (f 27) := hA 27 (by simp) 47 rfl
    have o1 : a.tmps[1]? = some (.pointer (some ⟨p1, 0, none⟩)) := (hO 1 (by simp)).trans rfl
    have h27 : (f 27) = .bool true := hF.1
    clear hA hO hF
    obtain ⟨q0, q1, q2, q3, q4, q5⟩ := Tp.cells (HK1.out.ext hE)
    go_simp
    exact hK _ _ (Below.refl _ _) rfl
  · -- 30: Op.buildSlice 23 1 #[(0, t49)]
    intro f a w K hE hA hO hF hK
    have e49 : a.tmps[49]? = some (f 29) := hA 29 (by simp) 49 rfl
    have e47 : a.tmps[47]? = some (f 27) := hA 27 (by simp) 47 rfl
    have h29 : (f 29) = x.val := hF.1
    have h27 : (f 27) = .bool true := hF.2.1
    clear hA hO hF
    rw [Tp.val] at h29
    go_simp
    exact hK _ _ ((Below.refl _ _).alloc (Nat.le_refl _) _) ⟨w.heap.size, rfl, at_lit w _ [x] _ rfl (Nat.le_add_left _ _)⟩
  · -- 31: Op.call { value (Operand.func 16), args := #[t48, t50], argTypes := #[23, 23] }
    intro f a w K hE hA hO hF hK
    have e48 : a.tmps[48]? = some (f 28) := hA 28 (by simp) 48 rfl
    have e50 : a.tmps[50]? = some (f 30) := hA 30 (by simp) 50 rfl
    have e47 : a.tmps[47]? = some (f 27) := hA 27 (by simp) 47 rfl
    have h28 : (f 28) = .slice A4 2 c4 := hF.1
    have h30 : ∃ g, (f 30) = .slice (some ⟨g, 0, none⟩) 1 1 ∧ At w (some ⟨g, 0, none⟩) 1 1 [x] := hF.2.1
    have h27 : (f 27) = .bool true := hF.2.2.1
    clear hA hO hF
    obtain ⟨g, h30, hat⟩ := h30
    go_simp
    refine (minus_any _ _ 2 _ 1 _ _ _ _ (HA4.out.ext hE) hat (by omega) (by omega)).mono ?_
    rintro e w2 ⟨A7, n7, c7, rfl, ha7, hb⟩
    rw [p_minus HLT.out] at ha7
    have hl := ha7.len
    simp only [List.length_cons, List.length_nil] at hl
    subst hl
    exact ⟨_, rfl, hK _ _ hb ⟨A7, c7, rfl⟩⟩
  · -- 32: Op.call { builtin len, args := #[t51], argTypes := #[23] }
    intro f a w K hE hA hO hF hK
    have e51 : a.tmps[51]? = some (f 31) := hA 31 (by simp) 51 rfl
    have e47 : a.tmps[47]? = some (f 27) := hA 27 (by simp) 47 rfl
    have h31 : ∃ A c, (f 31) = .slice A 1 c := hF.1
    have h27 : (f 27) = .bool true := hF.2.1
    clear hA hO hF
    obtain ⟨A7, c7, h31⟩ := h31
    go_simp
    exact hK _ _ (Below.refl _ _) rfl
  · -- 33: Op.binOp BinOp.eql 3 t52 (const (1:i64)) 3
    intro f a w K hE hA hO hF hK
    have e52 : a.tmps[52]? = some (f 32) := hA 32 (by simp) 52 rfl
    have e47 : a.tmps[47]? = some (f 27) := hA 27 (by simp) 47 rfl
    have h32 : (f 32) = .int .i64 1 := hF.1
    have h27 : (f 27) = .bool true := hF.2.1
    clear hA hO hF
    go_simp; exact hK _ _ (Below.refl _ _) (by first | trivial | rfl)
  · -- 34: Op.pick t47 t53 (const (Value.bool false))
    intro f a w K hE hA hO hF hK
    have e47 : a.tmps[47]? = some (f 27) := hA 27 (by simp) 47 rfl
    have e53 : a.tmps[53]? = some (f 33) := hA 33 (by simp) 53 rfl
    have h27 : (f 27) = .bool true := hF.1
    have h33 : (f 33) = .bool true := hF.2.1
    clear hA hO hF
    go_simp; exact hK _ _ (Below.refl _ _) (by first | trivial | rfl)
  · -- 35: Op.move t54
    intro f a w K hE hA hO hF hK
    have e54 : a.tmps[54]? = some (f 34) := hA 34 (by simp) 54 rfl
    have h34 : (f 34) = .bool true := hF.1
    clear hA hO hF
    go_simp; exact hK _ _ (Below.refl _ _) (by first | trivial | rfl)
  · -- 36: Op.move t4
    intro f a w K hE hA hO hF hK
    have e55 : a.tmps[55]? = some (f 35) := hA 35 (by simp) 55 rfl
    have o4 : a.tmps[4]? = some (.slice A5 0 c5) := (hO 4 (by simp)).trans rfl
    have h35 : (f 35) = .bool true := hF.1
    clear hA hO hF
    go_simp; exact hK _ _ (Below.refl _ _) (by first | trivial | rfl)
  · -- 37: Op.call { builtin len, args := #[t56], argTypes := #[23] }
    intro f a w K hE hA hO hF hK
    have e56 : a.tmps[56]? = some (f 36) := hA 36 (by simp) 56 rfl
    have e55 : a.tmps[55]? = some (f 35) := hA 35 (by simp) 55 rfl
    have h36 : (f 36) = .slice A5 0 c5 := hF.1
    have h35 : (f 35) = .bool true := hF.2.1
    clear hA hO hF
    go_simp; exact hK _ _ (Below.refl _ _) (by first | trivial | rfl)
  · -- 38: Op.binOp BinOp.eql 3 t57 (const (0:i64)) 3
    intro f a w K hE hA hO hF hK
    have e57 : a.tmps[57]? = some (f 37) := hA 37 (by simp) 57 rfl
    have e55 : a.tmps[55]? = some (f 35) := hA 35 (by simp) 55 rfl
    have h37 : (f 37) = .int .i64 0 := hF.1
    have h35 : (f 35) = .bool true := hF.2.1
    clear hA hO hF
    go_simp; exact hK _ _ (Below.refl _ _) (by first | trivial | rfl)
  · -- 39: Op.pick t55 t58 (const (Value.bool false))
    intro f a w K hE hA hO hF hK
    have e55 : a.tmps[55]? = some (f 35) := hA 35 (by simp) 55 rfl
    have e58 : a.tmps[58]? = some (f 38) := hA 38 (by simp) 58 rfl
    have h35 : (f 35) = .bool true := hF.1
    have h38 : (f 38) = .bool true := hF.2.1
    clear hA hO hF
    go_simp; exact hK _ _ (Below.refl _ _) (by first | trivial | rfl)
  · -- 40: Op.move t59
    intro f a w K hE hA hO hF hK
    have e59 : a.tmps[59]? = some (f 39) := hA 39 (by simp) 59 rfl
    have h39 : (f 39) = .bool true := hF.1
    clear hA hO hF
    go_simp; exact hK _ _ (Below.refl _ _) (by first | trivial | rfl)
  · -- 41: Op.move t5
    intro f a w K hE hA hO hF hK
    have e60 : a.tmps[60]? = some (f 40) := hA 40 (by simp) 60 rfl
    have o5 : a.tmps[5]? = some (.slice (some ⟨b6, o6, none⟩) 1 c6) := (hO 5 (by simp)).trans rfl
    have h40 : (f 40) = .bool true := hF.1
    clear hA hO hF
    go_simp; exact hK _ _ (Below.refl _ _) (by first | trivial | rfl)
  · -- 42: Op.call { builtin len, args := #[t61], argTypes := #[23] }
    intro f a w K hE hA hO hF hK
    have e61 : a.tmps[61]? = some (f 41) := hA 41 (by simp) 61 rfl
    have e60 : a.tmps[60]? = some (f 40) := hA 40 (by simp) 60 rfl
    have h41 : (f 41) = .slice (some ⟨b6, o6, none⟩) 1 c6 := hF.1
    have h40 : (f 40) = .bool true := hF.2.1
    clear hA hO hF
    go_simp; exact hK _ _ (Below.refl _ _) (by first | trivial | rfl)
  · -- 43: Op.binOp BinOp.eql 3 t62 (const (1:i64)) 3
    intro f a w K hE hA hO hF hK
    have e62 : a.tmps[62]? = some (f 42) := hA 42 (by simp) 62 rfl
    have e60 : a.tmps[60]? = some (f 40) := hA 40 (by simp) 60 rfl
    have h42 : (f 42) = .int .i64 1 := hF.1
    have h40 : (f 40) = .bool true := hF.2.1
    clear hA hO hF
    go_simp; exact hK _ _ (Below.refl _ _) (by first | trivial | rfl)
  · -- 44: Op.pick t60 t63 (const (Value.bool false))
    intro f a w K hE hA hO hF hK
    have e60 : a.tmps[60]? = some (f 40) := hA 40 (by simp) 60 rfl
    have e63 : a.tmps[63]? = some (f 43) := hA 43 (by simp) 63 rfl
    have h40 : (f 40) = .bool true := hF.1
    have h43 : (f 43) = .bool true := hF.2.1
    clear hA hO hF
    go_simp; exact hK _ _ (Below.refl _ _) (by first | trivial | rfl)
  · -- 45: Op.move t64
    intro f a w K hE hA hO hF hK
    have e64 : a.tmps[64]? = some (f 44) := hA 44 (by simp) 64 rfl
    have h44 : (f 44) = .bool true := hF.1
    clear hA hO hF
    go_simp; exact hK _ _ (Below.refl _ _) (by first | trivial | rfl)
  · -- 46: Op.move t5
    intro f a w K hE hA hO hF hK
    have e65 : a.tmps[65]? = some (f 45) := hA 45 (by simp) 65 rfl
    have o5 : a.tmps[5]? = some (.slice (some ⟨b6, o6, none⟩) 1 c6) := (hO 5 (by simp)).trans rfl
    have h45 : (f 45) = .bool true := hF.1
    clear hA hO hF
    go_simp; exact hK _ _ (Below.refl _ _) (by first | trivial | rfl)
  · -- 47: Op.indexAddr 23 t66 (const (0:i64))
    intro f a w K hE hA hO hF hK
    have e66 : a.tmps[66]? = some (f 46) := hA 46 (by simp) 66 rfl
    have e65 : a.tmps[65]? = some (f 45) := hA 45 (by simp) 65 rfl
    have h46 : (f 46) = .slice (some ⟨b6, o6, none⟩) 1 c6 := hF.1
    have h45 : (f 45) = .bool true := hF.2.1
    clear hA hO hF
    go_simp; exact hK _ _ (Below.refl _ _) (by first | trivial | rfl)
  · -- 48: Op.load 41 t67
    intro f a w K hE hA hO hF hK
    have e67 : a.tmps[67]? = some (f 47) := hA 47 (by simp) 67 rfl
    have e65 : a.tmps[65]? = some (f 45) := hA 45 (by simp) 65 rfl
    have h47 : (f 47) = .pointer (some ⟨b6, o6, none⟩) := hF.1
    have h45 : (f 45) = .bool true := hF.2.1
    clear hA hO hF
    obtain ⟨q0, q1, q2, q3, q4, q5⟩ := (HC6.out.keep fun i => hE.cell (p := ⟨b6, i, none⟩) HL6.out).cells
    go_simp
    exact hK _ _ (Below.refl _ _) rfl
  · -- 49: Op.load 41 t1
    intro f a w K hE hA hO hF hK
    have e65 : a.tmps[65]? = some (f 45) := hA 45 (by simp) 65 rfl
    have o1 : a.tmps[1]? = some (.pointer (some ⟨p1, 0, none⟩)) := (hO 1 (by simp)).trans rfl
    have h45 : (f 45) = .bool true := hF.1
    clear hA hO hF
    obtain ⟨q0, q1, q2, q3, q4, q5⟩ := Tp.cells (HK1.out.ext hE)
    go_simp
    exact hK _ _ (Below.refl _ _) rfl
  · -- 50: Op.binOp BinOp.eql 41 t68 t69 41
    intro f a w K hE hA hO hF hK
    have e68 : a.tmps[68]? = some (f 48) := hA 48 (by simp) 68 rfl
    have e69 : a.tmps[69]? = some (f 49) := hA 49 (by simp) 69 rfl
    have e65 : a.tmps[65]? = some (f 45) := hA 45 (by simp) 65 rfl
    have h48 : (f 48) = x.val := hF.1
    have h49 : (f 49) = x.val := hF.2.1
    have h45 : (f 45) = .bool true := hF.2.2.1
    clear hA hO hF
    rw [Tp.val] at h48 h49
    go_simp
    exact hK _ _ (Below.refl _ _) (by simp)
  · -- 51: Op.pick t65 t70 (const (Value.bool false))
    intro f a w K hE hA hO hF hK
    have e65 : a.tmps[65]? = some (f 45) := hA 45 (by simp) 65 rfl
    have e70 : a.tmps[70]? = some (f 50) := hA 50 (by simp) 70 rfl
    have h45 : (f 45) = .bool true := hF.1
    have h50 : (f 50) = .bool true := hF.2.1
    clear hA hO hF
    go_simp; exact hK _ _ (Below.refl _ _) (by first | trivial | rfl)
  · -- 52: Op.assign t71
    intro f a w K hE hA hO hF hK
    have e71 : a.tmps[71]? = some (f 51) := hA 51 (by simp) 71 rfl
    have h51 : (f 51) = .bool true := hF.1
    clear hA hO hF
    go_simp; exact hK _ _ (Below.refl _ _) (by first | trivial | rfl)
  intro f w1 hE hF
  have g0 : (f 0) = .slice A4 2 c4 := hF.1
  have g1 : (f 1) = .int .i64 2 := hF.2.1
  have g2 : (f 2) = .bool true := hF.2.2.1
  have g3 : (f 3) = .bool true := hF.2.2.2.1
  have g4 : (f 4) = .slice A4 2 c4 := hF.2.2.2.2.1
  have g5 : (f 5) = .bool true := hF.2.2.2.2.2.1
  have g6 : (f 6) = .bool true := hF.2.2.2.2.2.2.1
  have g7 : (f 7) = .bool true := hF.2.2.2.2.2.2.2.1
  have g8 : (f 8) = .slice A4 2 c4 := hF.2.2.2.2.2.2.2.2.1
  have g9 : (f 9) = x.val := hF.2.2.2.2.2.2.2.2.2.1
  have g10 : (f 10) = .bool true := hF.2.2.2.2.2.2.2.2.2.2.1
  have g11 : (f 11) = .bool true := hF.2.2.2.2.2.2.2.2.2.2.2.1
  have g12 : (f 12) = .bool true := hF.2.2.2.2.2.2.2.2.2.2.2.2.1
  have g13 : (f 13) = y.val := hF.2.2.2.2.2.2.2.2.2.2.2.2.2.1
  have g14 : (f 14) = x.val := hF.2.2.2.2.2.2.2.2.2.2.2.2.2.2.1
  have g15 : ∃ g, (f 15) = .slice (some ⟨g, 0, none⟩) 2 2 ∧ At w1 (some ⟨g, 0, none⟩) 2 2 [y, x] := hF.2.2.2.2.2.2.2.2.2.2.2.2.2.2.2.1
  have g16 : (f 16) = .bool false := hF.2.2.2.2.2.2.2.2.2.2.2.2.2.2.2.2.1
  have g17 : (f 17) = .bool true := hF.2.2.2.2.2.2.2.2.2.2.2.2.2.2.2.2.2.1
  have g18 : (f 18) = .bool true := hF.2.2.2.2.2.2.2.2.2.2.2.2.2.2.2.2.2.2.1
  have g19 : (f 19) = .bool true := hF.2.2.2.2.2.2.2.2.2.2.2.2.2.2.2.2.2.2.2.1
  have g20 : (f 20) = .slice A4 2 c4 := hF.2.2.2.2.2.2.2.2.2.2.2.2.2.2.2.2.2.2.2.2.1
  have g21 : (f 21) = x.val := hF.2.2.2.2.2.2.2.2.2.2.2.2.2.2.2.2.2.2.2.2.2.1
  have g22 : ∃ g, (f 22) = .slice (some ⟨g, 0, none⟩) 1 1 ∧ At w1 (some ⟨g, 0, none⟩) 1 1 [x] := hF.2.2.2.2.2.2.2.2.2.2.2.2.2.2.2.2.2.2.2.2.2.2.1
  have g23 : ∃ A c, (f 23) = .slice A 2 c := hF.2.2.2.2.2.2.2.2.2.2.2.2.2.2.2.2.2.2.2.2.2.2.2.1
  have g24 : (f 24) = .int .i64 2 := hF.2.2.2.2.2.2.2.2.2.2.2.2.2.2.2.2.2.2.2.2.2.2.2.2.1
  have g25 : (f 25) = .bool true := hF.2.2.2.2.2.2.2.2.2.2.2.2.2.2.2.2.2.2.2.2.2.2.2.2.2.1
  have g26 : (f 26) = .bool true := hF.2.2.2.2.2.2.2.2.2.2.2.2.2.2.2.2.2.2.2.2.2.2.2.2.2.2.1
  have g27 : (f 27) = .bool true := hF.2.2.2.2.2.2.2.2.2.2.2.2.2.2.2.2.2.2.2.2.2.2.2.2.2.2.2.1
  have g28 : (f 28) = .slice A4 2 c4 := hF.2.2.2.2.2.2.2.2.2.2.2.2.2.2.2.2.2.2.2.2.2.2.2.2.2.2.2.2.1
  have g29 : (f 29) = x.val := hF.2.2.2.2.2.2.2.2.2.2.2.2.2.2.2.2.2.2.2.2.2.2.2.2.2.2.2.2.2.1
  have g30 : ∃ g, (f 30) = .slice (some ⟨g, 0, none⟩) 1 1 ∧ At w1 (some ⟨g, 0, none⟩) 1 1 [x] := hF.2.2.2.2.2.2.2.2.2.2.2.2.2.2.2.2.2.2.2.2.2.2.2.2.2.2.2.2.2.2.1
  have g31 : ∃ A c, (f 31) = .slice A 1 c := hF.2.2.2.2.2.2.2.2.2.2.2.2.2.2.2.2.2.2.2.2.2.2.2.2.2.2.2.2.2.2.2.1
  have g32 : (f 32) = .int .i64 1 := hF.2.2.2.2.2.2.2.2.2.2.2.2.2.2.2.2.2.2.2.2.2.2.2.2.2.2.2.2.2.2.2.2.1
  have g33 : (f 33) = .bool true := hF.2.2.2.2.2.2.2.2.2.2.2.2.2.2.2.2.2.2.2.2.2.2.2.2.2.2.2.2.2.2.2.2.2.1
  have g34 : (f 34) = .bool true := hF.2.2.2.2.2.2.2.2.2.2.2.2.2.2.2.2.2.2.2.2.2.2.2.2.2.2.2.2.2.2.2.2.2.2.1
  have g35 : (f 35) = .bool true := hF.2.2.2.2.2.2.2.2.2.2.2.2.2.2.2.2.2.2.2.2.2.2.2.2.2.2.2.2.2.2.2.2.2.2.2.1
  have g36 : (f 36) = .slice A5 0 c5 := hF.2.2.2.2.2.2.2.2.2.2.2.2.2.2.2.2.2.2.2.2.2.2.2.2.2.2.2.2.2.2.2.2.2.2.2.2.1
  have g37 : (f 37) = .int .i64 0 := hF.2.2.2.2.2.2.2.2.2.2.2.2.2.2.2.2.2.2.2.2.2.2.2.2.2.2.2.2.2.2.2.2.2.2.2.2.2.1
  have g38 : (f 38) = .bool true := hF.2.2.2.2.2.2.2.2.2.2.2.2.2.2.2.2.2.2.2.2.2.2.2.2.2.2.2.2.2.2.2.2.2.2.2.2.2.2.1
  have g39 : (f 39) = .bool true := hF.2.2.2.2.2.2.2.2.2.2.2.2.2.2.2.2.2.2.2.2.2.2.2.2.2.2.2.2.2.2.2.2.2.2.2.2.2.2.2.1
  have g40 : (f 40) = .bool true := hF.2.2.2.2.2.2.2.2.2.2.2.2.2.2.2.2.2.2.2.2.2.2.2.2.2.2.2.2.2.2.2.2.2.2.2.2.2.2.2.2.1
  have g41 : (f 41) = .slice (some ⟨b6, o6, none⟩) 1 c6 := hF.2.2.2.2.2.2.2.2.2.2.2.2.2.2.2.2.2.2.2.2.2.2.2.2.2.2.2.2.2.2.2.2.2.2.2.2.2.2.2.2.2.1
  have g42 : (f 42) = .int .i64 1 := hF.2.2.2.2.2.2.2.2.2.2.2.2.2.2.2.2.2.2.2.2.2.2.2.2.2.2.2.2.2.2.2.2.2.2.2.2.2.2.2.2.2.2.1
  have g43 : (f 43) = .bool true := hF.2.2.2.2.2.2.2.2.2.2.2.2.2.2.2.2.2.2.2.2.2.2.2.2.2.2.2.2.2.2.2.2.2.2.2.2.2.2.2.2.2.2.2.1
  have g44 : (f 44) = .bool true := hF.2.2.2.2.2.2.2.2.2.2.2.2.2.2.2.2.2.2.2.2.2.2.2.2.2.2.2.2.2.2.2.2.2.2.2.2.2.2.2.2.2.2.2.2.1
  have g45 : (f 45) = .bool true := hF.2.2.2.2.2.2.2.2.2.2.2.2.2.2.2.2.2.2.2.2.2.2.2.2.2.2.2.2.2.2.2.2.2.2.2.2.2.2.2.2.2.2.2.2.2.1
  have g46 : (f 46) = .slice (some ⟨b6, o6, none⟩) 1 c6 := hF.2.2.2.2.2.2.2.2.2.2.2.2.2.2.2.2.2.2.2.2.2.2.2.2.2.2.2.2.2.2.2.2.2.2.2.2.2.2.2.2.2.2.2.2.2.2.1
  have g47 : (f 47) = .pointer (some ⟨b6, o6, none⟩) := hF.2.2.2.2.2.2.2.2.2.2.2.2.2.2.2.2.2.2.2.2.2.2.2.2.2.2.2.2.2.2.2.2.2.2.2.2.2.2.2.2.2.2.2.2.2.2.2.1
  have g48 : (f 48) = x.val := hF.2.2.2.2.2.2.2.2.2.2.2.2.2.2.2.2.2.2.2.2.2.2.2.2.2.2.2.2.2.2.2.2.2.2.2.2.2.2.2.2.2.2.2.2.2.2.2.2.1
  have g49 : (f 49) = x.val := hF.2.2.2.2.2.2.2.2.2.2.2.2.2.2.2.2.2.2.2.2.2.2.2.2.2.2.2.2.2.2.2.2.2.2.2.2.2.2.2.2.2.2.2.2.2.2.2.2.2.1
  have g50 : (f 50) = .bool true := hF.2.2.2.2.2.2.2.2.2.2.2.2.2.2.2.2.2.2.2.2.2.2.2.2.2.2.2.2.2.2.2.2.2.2.2.2.2.2.2.2.2.2.2.2.2.2.2.2.2.2.1
  have g51 : (f 51) = .bool true := hF.2.2.2.2.2.2.2.2.2.2.2.2.2.2.2.2.2.2.2.2.2.2.2.2.2.2.2.2.2.2.2.2.2.2.2.2.2.2.2.2.2.2.2.2.2.2.2.2.2.2.2.1
  have g52 : (f 52) = .bool true := hF.2.2.2.2.2.2.2.2.2.2.2.2.2.2.2.2.2.2.2.2.2.2.2.2.2.2.2.2.2.2.2.2.2.2.2.2.2.2.2.2.2.2.2.2.2.2.2.2.2.2.2.2.1
  simp only [awakeD, Fr.puts, Act.put, List.setIfInBounds_toArray, List.set_cons_zero, List.set_cons_succ]
  clear hF
  simp only [awakeS, List.length_cons, List.length_nil, Nat.reduceAdd, List.drop_succ_cons, List.drop_nil]
  rw [g52]
  clear g0 g1 g2 g3 g4 g5 g6 g7 g8 g9 g10 g11 g12 g13 g14 g15 g16 g17 g18 g19 g20 g21 g22 g23 g24 g25 g26 g27 g28 g29 g30 g31 g32 g33 g34 g35 g36 g37 g38 g39 g40 g41 g42 g43 g44 g45 g46 g47 g48 g49 g50 g51 g52
  have hb6 : Below w.heap.size w w1 := hbw5.trans (hE.mono hbw5.size)
  clear hE
  go_wp2
  go_ret
  exact ⟨rfl, hb6⟩
end Awake
end Go.Proofs.Ytdckfddlcmkdlaa
