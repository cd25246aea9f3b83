/-
  The walk of entaillaw2.Tame: a tuple of few, of a number.
-/
import Derived.Test.YtdckfddlcmkdlaaTp
import Derived.Test.YtdckfddlcmkdlaaNm
import Derived.Test.YtdckfddlcmkdlaaLaw
import Derived.Lib.Hide
namespace Go.Proofs.Ytdckfddlcmkdlaa
open Go.RowKit
namespace Tame
open Nm
def lAB : List ByteArray := [⟨#[97]⟩, ⟨#[98]⟩]
def lRS : List ByteArray := [⟨#[114]⟩, ⟨#[115]⟩]
def lUAB : List ByteArray := [⟨#[117]⟩, ⟨#[97]⟩, ⟨#[98]⟩]
def pAB (n : Int) : ByteArray := lAB.getD (n % 2).toNat ByteArray.empty
def pRS (n : Int) : ByteArray := lRS.getD (n % 2).toNat ByteArray.empty
def pUAB (n : Int) : ByteArray := lUAB.getD (n / 32 % 256 % 3).toNat ByteArray.empty
def base (n : Int) : Tp := ⟨pAB n, nm (n / 2), pRS (n / 16), pUAB n, nm (n / 8192), ByteArray.empty⟩
def tame (n : Int) : Tp := if n / 65536 % 4 = 0 then { base n with sr := pRS (n / 262144) } else base n

def tameS (n : Int) (B : Nat) : List Fr.Sp := [
  ⟨[], [], fun _ v w => Mm.IsRow w v 9 (lAB.map Value.string)⟩,
  ⟨[], [0], fun _ v _ => v = .int .i64 n⟩,
  ⟨[1], [], fun _ v _ => v = .int .i64 (n % 2)⟩,
  ⟨[0, 2], [], fun _ v w => Mm.IsPtr w v (.string (pAB n))⟩,
  ⟨[3], [], fun _ v _ => v = .string (pAB n)⟩,
  ⟨[], [0], fun _ v _ => v = .int .i64 n⟩,
  ⟨[5], [], fun _ v _ => v = .int .i64 (n / 2)⟩,
  ⟨[6], [], fun _ v _ => v = .string (nm (n / 2))⟩,
  ⟨[4, 7], [], fun _ v _ => v = .agg #[.string (pAB n), .string (nm (n / 2))]⟩,
  ⟨[], [], fun _ v w => Mm.IsRow w v 9 (lRS.map Value.string)⟩,
  ⟨[], [0], fun _ v _ => v = .int .i64 n⟩,
  ⟨[10], [], fun _ v _ => v = .int .i64 (n / 16)⟩,
  ⟨[11], [], fun _ v _ => v = .int .i64 (n / 16 % 2)⟩,
  ⟨[9, 12], [], fun _ v w => Mm.IsPtr w v (.string (pRS (n / 16)))⟩,
  ⟨[13], [], fun _ v _ => v = .string (pRS (n / 16))⟩,
  ⟨[], [], fun _ v w => Mm.IsRow w v 9 (lUAB.map Value.string)⟩,
  ⟨[], [0], fun _ v _ => v = .int .i64 n⟩,
  ⟨[16], [], fun _ v _ => v = .int .i64 (n / 32)⟩,
  ⟨[17], [], fun _ v _ => v = .int .i64 (n / 32 % 256)⟩,
  ⟨[18], [], fun _ v _ => v = .int .i64 (n / 32 % 256 % 3)⟩,
  ⟨[15, 19], [], fun _ v w => Mm.IsPtr w v (.string (pUAB n))⟩,
  ⟨[20], [], fun _ v _ => v = .string (pUAB n)⟩,
  ⟨[], [0], fun _ v _ => v = .int .i64 n⟩,
  ⟨[22], [], fun _ v _ => v = .int .i64 (n / 8192)⟩,
  ⟨[23], [], fun _ v _ => v = .string (nm (n / 8192))⟩,
  ⟨[21, 24], [], fun _ v _ => v = .agg #[.string (pUAB n), .string (nm (n / 8192)), .string ByteArray.empty]⟩,
  ⟨[8, 14, 25], [], fun _ v _ => v = .agg #[.string (pAB n), .string (nm (n / 2)), .string (pRS (n / 16)), .string (pUAB n), .string (nm (n / 8192)), .string ByteArray.empty]⟩,
  ⟨[], [], fun _ v w => Mm.IsNew w v B 41 (default : Tp).enc⟩]
def tameD : List (Option Nat) := [some 4, some 5, some 6, some 7, some 8, some 9, some 10, some 11, some 12, some 13, some 14, some 15, some 16, some 17, some 18, some 19, some 20, some 21, some 22, some 23, some 24, some 25, some 26, some 27, some 28, some 29, some 30, some 3]
theorem tameSt (n : Int) (B : Nat) : Fr.Stables (tameS n B) :=
  ⟨fun _ _ _ _ hb h => Mm.IsRow.ext hb h, fun _ _ _ _ _ h => h, fun _ _ _ _ _ h => h, fun _ _ _ _ hb h => Mm.IsPtr.ext hb h, fun _ _ _ _ _ h => h, fun _ _ _ _ _ h => h, fun _ _ _ _ _ h => h, fun _ _ _ _ _ h => h, fun _ _ _ _ _ h => h, fun _ _ _ _ hb h => Mm.IsRow.ext hb h, fun _ _ _ _ _ h => h, fun _ _ _ _ _ h => h, fun _ _ _ _ _ h => h, fun _ _ _ _ hb h => Mm.IsPtr.ext hb h, fun _ _ _ _ _ h => h, fun _ _ _ _ hb h => Mm.IsRow.ext hb h, fun _ _ _ _ _ h => h, fun _ _ _ _ _ h => h, fun _ _ _ _ _ h => h, fun _ _ _ _ _ h => h, fun _ _ _ _ hb h => Mm.IsPtr.ext hb h, fun _ _ _ _ _ h => h, fun _ _ _ _ _ h => h, fun _ _ _ _ _ h => h, fun _ _ _ _ _ h => h, fun _ _ _ _ _ h => h, fun _ _ _ _ _ h => h, fun _ _ _ _ hb h => Mm.IsNew.ext hb h, trivial⟩

set_option maxRecDepth 100000 in
set_option maxHeartbeats 2000000 in
theorem tame_any (n : Int) (w : World) : Calls Try.prog 28 #[.int .i64 n] w fun e w' => e = .returned (tame n).val ∧ Below w.heap.size w w' := by
  have a1 := Pl.and1 n
  have a2 := Pl.and1 (n / 16)
  have a3 := Pl.and255 (n / 32)
  have t1 : (n / 32 % 256).tmod 3 = n / 32 % 256 % 3 := Int.tmod_eq_emod_of_nonneg (by omega)
  have b1 : 0 ≤ n % 2 := by omega
  have c1 : n % 2 < 2 := by omega
  have c2 : n / 16 % 2 < 2 := by omega
  have c4 : n / 32 % 256 % 3 < 3 := by omega
  have b2 : 0 ≤ n / 16 % 2 := by omega
  have b3 : 0 ≤ n / 32 % 256 := by omega
  have b4 : 0 ≤ n / 32 % 256 % 3 := by omega
  go_enter Try.func28, Try.ntmps28
  go_wp2
  refine Fr.wp_region_free (by kernel_rfl) (tameS n (w.heap.size + 1)) tameD (by kernel_rfl) (by kernel_rfl) (tameSt n _) ?_ ?_
  refine ⟨?_, ?_, ?_, ?_, ?_, ?_, ?_, ?_, ?_, ?_, ?_, ?_, ?_, ?_, ?_, ?_, ?_, ?_, ?_, ?_, ?_, ?_, ?_, ?_, ?_, ?_, ?_, ?_, trivial⟩
  · -- 0: Op.buildSlice 69 2 #[(0, const (Value.string { data := #[97] })), (1, const (Value.string 
    intro f a w K hE hA hO hF hK
    clear hA hO hF
    go_simp
    exact hK _ _ ((Below.refl _ _).alloc (Nat.le_refl _) _) ⟨w.heap.size, rfl, heap_alloc_new w _⟩
  · -- 1: Op.move t0
    intro f a w K hE hA hO hF hK
    have o0 : a.tmps[0]? = some (.int .i64 n) := (hO 0 (by simp)).trans rfl
    clear hA hO hF
    go_simp; exact hK _ _ (Below.refl _ _) (by first | trivial | rfl)
  · -- 2: Op.binOp BinOp.and 2 t5 (const (1:i64)) 2
    intro f a w K hE hA hO hF hK
    have e5 : a.tmps[5]? = some (f 1) := hA 1 (by simp) 5 rfl
    have h1 : (f 1) = .int .i64 n := hF.1
    clear hA hO hF
    go_simp; exact hK _ _ (Below.refl _ _) (by first | trivial | rfl)
  · -- 3: Op.indexAddr 69 t4 t6
    intro f a w K hE hA hO hF hK
    have e4 : a.tmps[4]? = some (f 0) := hA 0 (by simp) 4 rfl
    have e6 : a.tmps[6]? = some (f 2) := hA 2 (by simp) 6 rfl
    have h0 : Mm.IsRow w (f 0) 9 (lAB.map Value.string) := hF.1
    have h2 : (f 2) = .int .i64 (n % 2) := hF.2.1
    clear hA hO hF
    obtain ⟨b, hv, hk⟩ := h0
    have hv' : f 0 = .slice (some ⟨b, 0, none⟩) 2 2 := hv
    clear hv
    have hc := Mm.IsRow.pick hk (i := (n % 2).toNat) (by simp only [lAB, List.length_cons, List.length_nil]; omega)
    clear hk
    go_simp
    exact hK _ _ (Below.refl _ _) ⟨b, _, rfl, hc⟩
  · -- 4: Op.load 9 t7
    intro f a w K hE hA hO hF hK
    have e7 : a.tmps[7]? = some (f 3) := hA 3 (by simp) 7 rfl
    have h3 : Mm.IsPtr w (f 3) (.string (pAB n)) := hF.1
    clear hA hO hF
    obtain ⟨b, o, hv, hc⟩ := h3
    go_simp
    exact hK _ _ (Below.refl _ _) rfl
  · -- 5: Op.move t0
    intro f a w K hE hA hO hF hK
    have o0 : a.tmps[0]? = some (.int .i64 n) := (hO 0 (by simp)).trans rfl
    clear hA hO hF
    go_simp; exact hK _ _ (Below.refl _ _) (by first | trivial | rfl)
  · -- 6: Op.binOp BinOp.shr 2 t9 (const (1:u64)) 103
    intro f a w K hE hA hO hF hK
    have e9 : a.tmps[9]? = some (f 5) := hA 5 (by simp) 9 rfl
    have h5 : (f 5) = .int .i64 n := hF.1
    clear hA hO hF
    go_simp; exact hK _ _ (Below.refl _ _) (by first | trivial | rfl)
  · -- 7: Op.call { value (Operand.func 63), args := #[t10], argTypes := #[2] }
    intro f a w K hE hA hO hF hK
    have e10 : a.tmps[10]? = some (f 6) := hA 6 (by simp) 10 rfl
    have h6 : (f 6) = .int .i64 (n / 2) := hF.1
    clear hA hO hF
    go_simp
    refine (Nm.nm_any _ _).mono ?_
    rintro e w2 ⟨rfl, hb⟩
    exact ⟨_, rfl, hK _ _ hb rfl⟩
  · -- 8: Op.build 37 #[(0, t8), (1, t11)]
    intro f a w K hE hA hO hF hK
    have e8 : a.tmps[8]? = some (f 4) := hA 4 (by simp) 8 rfl
    have e11 : a.tmps[11]? = some (f 7) := hA 7 (by simp) 11 rfl
    have h4 : (f 4) = .string (pAB n) := hF.1
    have h7 : (f 7) = .string (nm (n / 2)) := hF.2.1
    clear hA hO hF
    go_simp; exact hK _ _ (Below.refl _ _) (by first | trivial | rfl)
  · -- 9: Op.buildSlice 69 2 #[(0, const (Value.string { data := #[114] })), (1, const (Value.string
    intro f a w K hE hA hO hF hK
    clear hA hO hF
    go_simp
    exact hK _ _ ((Below.refl _ _).alloc (Nat.le_refl _) _) ⟨w.heap.size, rfl, heap_alloc_new w _⟩
  · -- 10: Op.move t0
    intro f a w K hE hA hO hF hK
    have o0 : a.tmps[0]? = some (.int .i64 n) := (hO 0 (by simp)).trans rfl
    clear hA hO hF
    go_simp; exact hK _ _ (Below.refl _ _) (by first | trivial | rfl)
  · -- 11: Op.binOp BinOp.shr 2 t14 (const (4:u64)) 103
    intro f a w K hE hA hO hF hK
    have e14 : a.tmps[14]? = some (f 10) := hA 10 (by simp) 14 rfl
    have h10 : (f 10) = .int .i64 n := hF.1
    clear hA hO hF
    go_simp; exact hK _ _ (Below.refl _ _) (by first | trivial | rfl)
  · -- 12: Op.binOp BinOp.and 2 t15 (const (1:i64)) 2
    intro f a w K hE hA hO hF hK
    have e15 : a.tmps[15]? = some (f 11) := hA 11 (by simp) 15 rfl
    have h11 : (f 11) = .int .i64 (n / 16) := hF.1
    clear hA hO hF
    go_simp; exact hK _ _ (Below.refl _ _) (by first | trivial | rfl)
  · -- 13: Op.indexAddr 69 t13 t16
    intro f a w K hE hA hO hF hK
    have e13 : a.tmps[13]? = some (f 9) := hA 9 (by simp) 13 rfl
    have e16 : a.tmps[16]? = some (f 12) := hA 12 (by simp) 16 rfl
    have h9 : Mm.IsRow w (f 9) 9 (lRS.map Value.string) := hF.1
    have h12 : (f 12) = .int .i64 (n / 16 % 2) := hF.2.1
    clear hA hO hF
    obtain ⟨b, hv, hk⟩ := h9
    have hv' : f 9 = .slice (some ⟨b, 0, none⟩) 2 2 := hv
    clear hv
    have hc := Mm.IsRow.pick hk (i := (n / 16 % 2).toNat) (by simp only [lRS, List.length_cons, List.length_nil]; omega)
    clear hk
    go_simp
    exact hK _ _ (Below.refl _ _) ⟨b, _, rfl, hc⟩
  · -- 14: Op.load 9 t17
    intro f a w K hE hA hO hF hK
    have e17 : a.tmps[17]? = some (f 13) := hA 13 (by simp) 17 rfl
    have h13 : Mm.IsPtr w (f 13) (.string (pRS (n / 16))) := hF.1
    clear hA hO hF
    obtain ⟨b, o, hv, hc⟩ := h13
    go_simp
    exact hK _ _ (Below.refl _ _) rfl
  · -- 15: Op.buildSlice 69 3 #[(0, const (Value.string { data := #[117] })), (1, const (Value.string
    intro f a w K hE hA hO hF hK
    clear hA hO hF
    go_simp
    exact hK _ _ ((Below.refl _ _).alloc (Nat.le_refl _) _) ⟨w.heap.size, rfl, heap_alloc_new w _⟩
  · -- 16: Op.move t0
    intro f a w K hE hA hO hF hK
    have o0 : a.tmps[0]? = some (.int .i64 n) := (hO 0 (by simp)).trans rfl
    clear hA hO hF
    go_simp; exact hK _ _ (Below.refl _ _) (by first | trivial | rfl)
  · -- 17: Op.binOp BinOp.shr 2 t20 (const (5:u64)) 103
    intro f a w K hE hA hO hF hK
    have e20 : a.tmps[20]? = some (f 16) := hA 16 (by simp) 20 rfl
    have h16 : (f 16) = .int .i64 n := hF.1
    clear hA hO hF
    go_simp; exact hK _ _ (Below.refl _ _) (by first | trivial | rfl)
  · -- 18: Op.binOp BinOp.and 2 t21 (const (255:i64)) 2
    intro f a w K hE hA hO hF hK
    have e21 : a.tmps[21]? = some (f 17) := hA 17 (by simp) 21 rfl
    have h17 : (f 17) = .int .i64 (n / 32) := hF.1
    clear hA hO hF
    go_simp; exact hK _ _ (Below.refl _ _) (by first | trivial | rfl)
  · -- 19: Op.binOp BinOp.rem 2 t22 (const (3:i64)) 2
    intro f a w K hE hA hO hF hK
    have e22 : a.tmps[22]? = some (f 18) := hA 18 (by simp) 22 rfl
    have h18 : (f 18) = .int .i64 (n / 32 % 256) := hF.1
    clear hA hO hF
    go_simp; exact hK _ _ (Below.refl _ _) (by first | trivial | rfl)
  · -- 20: Op.indexAddr 69 t19 t23
    intro f a w K hE hA hO hF hK
    have e19 : a.tmps[19]? = some (f 15) := hA 15 (by simp) 19 rfl
    have e23 : a.tmps[23]? = some (f 19) := hA 19 (by simp) 23 rfl
    have h15 : Mm.IsRow w (f 15) 9 (lUAB.map Value.string) := hF.1
    have h19 : (f 19) = .int .i64 (n / 32 % 256 % 3) := hF.2.1
    clear hA hO hF
    obtain ⟨b, hv, hk⟩ := h15
    have hv' : f 15 = .slice (some ⟨b, 0, none⟩) 3 3 := hv
    clear hv
    have hc := Mm.IsRow.pick hk (i := (n / 32 % 256 % 3).toNat) (by simp only [lUAB, List.length_cons, List.length_nil]; omega)
    clear hk
    go_simp
    exact hK _ _ (Below.refl _ _) ⟨b, _, rfl, hc⟩
  · -- 21: Op.load 9 t24
    intro f a w K hE hA hO hF hK
    have e24 : a.tmps[24]? = some (f 20) := hA 20 (by simp) 24 rfl
    have h20 : Mm.IsPtr w (f 20) (.string (pUAB n)) := hF.1
    clear hA hO hF
    obtain ⟨b, o, hv, hc⟩ := h20
    go_simp
    exact hK _ _ (Below.refl _ _) rfl
  · -- 22: Op.move t0
    intro f a w K hE hA hO hF hK
    have o0 : a.tmps[0]? = some (.int .i64 n) := (hO 0 (by simp)).trans rfl
    clear hA hO hF
    go_simp; exact hK _ _ (Below.refl _ _) (by first | trivial | rfl)
  · -- 23: Op.binOp BinOp.shr 2 t26 (const (13:u64)) 103
    intro f a w K hE hA hO hF hK
    have e26 : a.tmps[26]? = some (f 22) := hA 22 (by simp) 26 rfl
    have h22 : (f 22) = .int .i64 n := hF.1
    clear hA hO hF
    go_simp; exact hK _ _ (Below.refl _ _) (by first | trivial | rfl)
  · -- 24: Op.call { value (Operand.func 63), args := #[t27], argTypes := #[2] }
    intro f a w K hE hA hO hF hK
    have e27 : a.tmps[27]? = some (f 23) := hA 23 (by simp) 27 rfl
    have h23 : (f 23) = .int .i64 (n / 8192) := hF.1
    clear hA hO hF
    go_simp
    refine (Nm.nm_any _ _).mono ?_
    rintro e w2 ⟨rfl, hb⟩
    exact ⟨_, rfl, hK _ _ hb rfl⟩
  · -- 25: Op.build 39 #[(0, t25), (1, t28)]
    intro f a w K hE hA hO hF hK
    have e25 : a.tmps[25]? = some (f 21) := hA 21 (by simp) 25 rfl
    have e28 : a.tmps[28]? = some (f 24) := hA 24 (by simp) 28 rfl
    have h21 : (f 21) = .string (pUAB n) := hF.1
    have h24 : (f 24) = .string (nm (n / 8192)) := hF.2.1
    clear hA hO hF
    go_simp; exact hK _ _ (Below.refl _ _) (by first | trivial | rfl)
  · -- 26: Op.build 41 #[(0, t12), (1, t18), (2, t29)]
    intro f a w K hE hA hO hF hK
    have e12 : a.tmps[12]? = some (f 8) := hA 8 (by simp) 12 rfl
    have e18 : a.tmps[18]? = some (f 14) := hA 14 (by simp) 18 rfl
    have e29 : a.tmps[29]? = some (f 25) := hA 25 (by simp) 29 rfl
    have h8 : (f 8) = .agg #[.string (pAB n), .string (nm (n / 2))] := hF.1
    have h14 : (f 14) = .string (pRS (n / 16)) := hF.2.1
    have h25 : (f 25) = .agg #[.string (pUAB n), .string (nm (n / 8192)), .string ByteArray.empty] := hF.2.2.1
    clear hA hO hF
    go_simp; exact hK _ _ (Below.refl _ _) (by first | trivial | rfl)
  · -- 27: Op.alloc 41
    intro f a w K hE hA hO hF hK
    clear hA hO hF
    go_simp
    exact hK _ _ ((Below.refl _ _).alloc (Nat.le_refl _) _) ⟨w.heap.size, rfl, by have := hE.size; simp at this; omega, heap_alloc_new w _⟩
  intro f w1 hE hF
  have g0 : Mm.IsRow w1 (f 0) 9 (lAB.map Value.string) := hF.1
  have g1 : (f 1) = .int .i64 n := hF.2.1
  have g2 : (f 2) = .int .i64 (n % 2) := hF.2.2.1
  have g3 : Mm.IsPtr w1 (f 3) (.string (pAB n)) := hF.2.2.2.1
  have g4 : (f 4) = .string (pAB n) := hF.2.2.2.2.1
  have g5 : (f 5) = .int .i64 n := hF.2.2.2.2.2.1
  have g6 : (f 6) = .int .i64 (n / 2) := hF.2.2.2.2.2.2.1
  have g7 : (f 7) = .string (nm (n / 2)) := hF.2.2.2.2.2.2.2.1
  have g8 : (f 8) = .agg #[.string (pAB n), .string (nm (n / 2))] := hF.2.2.2.2.2.2.2.2.1
  have g9 : Mm.IsRow w1 (f 9) 9 (lRS.map Value.string) := hF.2.2.2.2.2.2.2.2.2.1
  have g10 : (f 10) = .int .i64 n := hF.2.2.2.2.2.2.2.2.2.2.1
  have g11 : (f 11) = .int .i64 (n / 16) := hF.2.2.2.2.2.2.2.2.2.2.2.1
  have g12 : (f 12) = .int .i64 (n / 16 % 2) := hF.2.2.2.2.2.2.2.2.2.2.2.2.1
  have g13 : Mm.IsPtr w1 (f 13) (.string (pRS (n / 16))) := hF.2.2.2.2.2.2.2.2.2.2.2.2.2.1
  have g14 : (f 14) = .string (pRS (n / 16)) := hF.2.2.2.2.2.2.2.2.2.2.2.2.2.2.1
  have g15 : Mm.IsRow w1 (f 15) 9 (lUAB.map Value.string) := hF.2.2.2.2.2.2.2.2.2.2.2.2.2.2.2.1
  have g16 : (f 16) = .int .i64 n := hF.2.2.2.2.2.2.2.2.2.2.2.2.2.2.2.2.1
  have g17 : (f 17) = .int .i64 (n / 32) := hF.2.2.2.2.2.2.2.2.2.2.2.2.2.2.2.2.2.1
  have g18 : (f 18) = .int .i64 (n / 32 % 256) := hF.2.2.2.2.2.2.2.2.2.2.2.2.2.2.2.2.2.2.1
  have g19 : (f 19) = .int .i64 (n / 32 % 256 % 3) := hF.2.2.2.2.2.2.2.2.2.2.2.2.2.2.2.2.2.2.2.1
  have g20 : Mm.IsPtr w1 (f 20) (.string (pUAB n)) := hF.2.2.2.2.2.2.2.2.2.2.2.2.2.2.2.2.2.2.2.2.1
  have g21 : (f 21) = .string (pUAB n) := hF.2.2.2.2.2.2.2.2.2.2.2.2.2.2.2.2.2.2.2.2.2.1
  have g22 : (f 22) = .int .i64 n := hF.2.2.2.2.2.2.2.2.2.2.2.2.2.2.2.2.2.2.2.2.2.2.1
  have g23 : (f 23) = .int .i64 (n / 8192) := hF.2.2.2.2.2.2.2.2.2.2.2.2.2.2.2.2.2.2.2.2.2.2.2.1
  have g24 : (f 24) = .string (nm (n / 8192)) := hF.2.2.2.2.2.2.2.2.2.2.2.2.2.2.2.2.2.2.2.2.2.2.2.2.1
  have g25 : (f 25) = .agg #[.string (pUAB n), .string (nm (n / 8192)), .string ByteArray.empty] := hF.2.2.2.2.2.2.2.2.2.2.2.2.2.2.2.2.2.2.2.2.2.2.2.2.2.1
  have g26 : (f 26) = .agg #[.string (pAB n), .string (nm (n / 2)), .string (pRS (n / 16)), .string (pUAB n), .string (nm (n / 8192)), .string ByteArray.empty] := hF.2.2.2.2.2.2.2.2.2.2.2.2.2.2.2.2.2.2.2.2.2.2.2.2.2.2.1
  have g27 : Mm.IsNew w1 (f 27) (w.heap.size + 1) 41 (default : Tp).enc := hF.2.2.2.2.2.2.2.2.2.2.2.2.2.2.2.2.2.2.2.2.2.2.2.2.2.2.2.1
  simp only [tameD, Fr.puts, Act.put, List.setIfInBounds_toArray, List.set_cons_zero, List.set_cons_succ]
  clear hF
  obtain ⟨b, hv, hB, hk⟩ := g27
  rw [g26, hv]
  simp only [tameS, List.length_cons, List.length_nil, Nat.reduceAdd, List.drop_succ_cons, List.drop_zero]
  have hne : w.heap.size ≠ b := by omega
  have hk2 : Mm.Bk w1 w.heap.size 41 (default : Tp).enc := (Mm.Bk.new w _ _).below hE (by simp)
  have hE1 : Below w.heap.size w w1 := ((Below.refl _ w).alloc (Nat.le_refl _) _).trans (hE.mono (by simp))
  clear g0 g1 g2 g3 g4 g5 g6 g7 g8 g9 g10 g11 g12 g13 g14 g15 g16 g17 g18 g19 g20 g21 g22 g23 g24 g25 g26 hv hE
  refine Lw.wpList_store_row rfl 41 _ _ rfl b rfl _ rfl _ _ hk rfl (base n).enc_one (by kernel_rfl) ?_
  intro w2 ho hk3
  have hk4 := ho.bk hk2 hne
  have hE2 := ho.below hE1 (by omega)
  clear ho hk2 hk hE1
  have HK3 := Lib.hid hk3
  have HK4 := Lib.hid hk4
  clear hk3 hk4
  have a4 := Pl.and3 (n / 65536)
  have hb4 := HK4.out.lt
  have hb3 := HK3.out.lt
  by_cases h4 : n / 65536 % 4 = 0
  · have h4' : (n / 65536 % 4 == 0) = true := by simpa using h4
    have a5 := Pl.and1 (n / 262144)
    have b5 : 0 ≤ n / 262144 % 2 := by omega
    have c5 : n / 262144 % 2 < 2 := by omega
    have q5 : w2.cell? ⟨b, 5, none⟩ = some (.string ByteArray.empty) := HK3.out.cell 5
    have f5 := HK3.out.frozen 5
    have ht : tame n = { base n with sr := pRS (n / 262144) } := if_pos h4
    have hp : (lRS.map Value.string)[(n / 262144 % 2).toNat]? = some (.string (pRS (n / 262144))) := Pl.pick_at (l := lRS) (by simp only [lRS, List.length_cons, List.length_nil]; omega)
    rw [List.getElem?_eq_getElem (by simp only [lRS, List.map_cons, List.map_nil, List.length_cons, List.length_nil]; omega)] at hp
    have HT := Lib.hid ht
    have hp2 : ∀ h, ([Value.string ⟨#[114]⟩, Value.string ⟨#[115]⟩] : List Value)[(n / 262144 % 2).toNat]'h = .string (pRS (n / 262144)) := fun _ => Option.some.inj hp
    clear ht h4 hp
    go_wp2_with (first | (refine Lw.wpList_load_agg rfl 41 _ rfl ⟨b, 0, none⟩ rfl _ (Mm.Bk.reads ((HK3.out.put 5 _).alloc _)) _ Try.underlying41 rfl (by kernel_rfl) ?_) | (refine Lw.wpList_store_row rfl 41 _ _ rfl w.heap.size rfl _ rfl _ _ ((HK4.out.far hne _).alloc _) rfl (Tp.enc_one ⟨_, _, _, _, _, _⟩) (by kernel_rfl) ?_; intro w3 ho3 hk5; have HO := Lib.hid ho3; have HK5 := Lib.hid hk5; clear ho3 hk5))
    refine bodyPost_ret (results_cell_row (P := Try.prog) rfl _ _ w.heap.size 41 _ (0, 0) _ rfl HK5.out Try.underlying41 rfl (by kernel_rfl)) rfl ?_
    exact ⟨by rw [HT.out]; rfl, HO.out.below ((hE2.setCell (p := ⟨b, 5, none⟩) (by simp; omega) _).alloc (by have := hE2.size; simp; omega) _) (Nat.le_refl _)⟩
  · have h4' : (n / 65536 % 4 == 0) = false := by simpa using h4
    have ht : tame n = base n := if_neg h4
    have HT := Lib.hid ht
    clear ht h4
    go_wp2_with (first | (refine Lw.wpList_load_agg rfl 41 _ rfl ⟨b, 0, none⟩ rfl _ (Mm.Bk.reads HK3.out) _ Try.underlying41 rfl (by kernel_rfl) ?_) | (refine Lw.wpList_store_row rfl 41 _ _ rfl w.heap.size rfl _ rfl _ _ HK4.out rfl (Tp.enc_one ⟨_, _, _, _, _, _⟩) (by kernel_rfl) ?_; intro w3 ho3 hk5; have HO := Lib.hid ho3; have HK5 := Lib.hid hk5; clear ho3 hk5))
    refine bodyPost_ret (results_cell_row (P := Try.prog) rfl _ _ w.heap.size 41 _ (0, 0) _ rfl HK5.out Try.underlying41 rfl (by kernel_rfl)) rfl ?_
    exact ⟨by rw [HT.out]; rfl, HO.out.below hE2 (Nat.le_refl _)⟩
end Tame
end Go.Proofs.Ytdckfddlcmkdlaa
