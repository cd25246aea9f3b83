/-
  entaillaw3.RowsLaws: the walk.
-/
import Derived.Test.YtdckfddlcmkdlaaDiff
namespace Go.Proofs.Ytdckfddlcmkdlaa
open Go.RowKit
namespace Lws
open Cmp TO Rd Rset Tames Go.Proofs.Ytdckfddlcmkdlaa.Sum Df

theorem keepBk {w w' : World} {v : Value} {T : TypeId} {n : Nat} {cs : List Value} (hb : Below w.heap.size w w') (h : ∃ g, v = .slice (some ⟨g, 0, none⟩) n n ∧ Mm.Bk w g T cs) : ∃ g, v = .slice (some ⟨g, 0, none⟩) n n ∧ Mm.Bk w' g T cs := by
  obtain ⟨g, e, ha⟩ := h
  exact ⟨g, e, ha.ext hb⟩

theorem mem_back {L ys : List Tp} {i : Nat} {x : Tp} (hi : i < L.length) (hx : L[i]! = x) (h : ∀ z, z ∈ ys ↔ z ∈ L.drop (i + 1)) : ∀ z, z ∈ ys ++ [x, x] ↔ z ∈ L.drop i := by
  intro z
  rw [List.drop_eq_getElem_cons hi, List.mem_append, h z, List.mem_cons]
  rw [List.getElem!_eq_getElem?_getD, List.getElem?_eq_getElem hi] at hx
  have : L[i] = x := hx
  rw [this]
  simp
  exact Or.comm

structure Tk (L : List Tp) (k : Nat) (x t : Tp) : Prop where
  iff : t ∈ L.take (k + 1) ↔ t ∈ L.take k ∨ x = t
theorem take_mem {L : List Tp} {k : Nat} {t : Tp} (h : k < L.length) : Tk L k L[k]! t := ⟨by
  rw [List.take_succ_eq_append_getElem h, List.mem_append, List.getElem!_eq_getElem?_getD, List.getElem?_eq_getElem h]
  simp only [List.mem_singleton, Option.getD_some]
  exact or_congr Iff.rfl ⟨fun e => e.symm, fun e => e.symm⟩⟩
theorem Tk.of_true {L : List Tp} {k : Nat} {x t : Tp} (h : Tk L k x t) (e : true = decide (t ∈ L.take k)) : true = decide (t ∈ L.take (k + 1)) := by
  have e1 := decide_eq_true_iff.1 e.symm
  exact (decide_eq_true_iff.2 (h.iff.2 (.inl e1))).symm
theorem Tk.of_eq {L : List Tp} {k : Nat} {x t : Tp} (h : Tk L k x t) (e : x = t) : true = decide (t ∈ L.take (k + 1)) := by
  exact (decide_eq_true_iff.2 (h.iff.2 (.inr e))).symm
theorem Tk.of_false {L : List Tp} {k : Nat} {x t : Tp} (h : Tk L k x t) (e : false = decide (t ∈ L.take k)) (e2 : ¬ x = t) : false = decide (t ∈ L.take (k + 1)) := by
  have e1 := decide_eq_false_iff_not.1 e.symm
  exact (decide_eq_false_iff_not.2 fun hh => (h.iff.1 hh).elim e1 e2).symm

theorem keepSl {w w' : World} {v : Value} {xs : List Tp} (hb : Below w.heap.size w w') (h : ∃ A n c, v = .slice A n c ∧ At w A n c xs) : ∃ A n c, v = .slice A n c ∧ At w' A n c xs := by
  obtain ⟨A, n, c, e, ha⟩ := h
  exact ⟨A, n, c, e, ha.ext hb⟩

def laws7S (b o nl cl i : Nat) (A5 : Option Addr) (nb c5 : Nat) (x : Tp) : List Fr.Sp := [
  ⟨[], [13], fun _ v _ => v = .slice A5 nb c5⟩,
  ⟨[], [9], fun _ v _ => v = .slice (some ⟨b, o, none⟩) nl cl⟩,
  ⟨[], [14], fun _ v _ => v = .int .i64 i⟩,
  ⟨[1, 2], [], fun _ v _ => v = .pointer (some ⟨b, o + i * 6, none⟩)⟩,
  ⟨[3], [], fun _ v _ => v = x.val⟩,
  ⟨[], [9], fun _ v _ => v = .slice (some ⟨b, o, none⟩) nl cl⟩,
  ⟨[], [14], fun _ v _ => v = .int .i64 i⟩,
  ⟨[5, 6], [], fun _ v _ => v = .pointer (some ⟨b, o + i * 6, none⟩)⟩,
  ⟨[7], [], fun _ v _ => v = x.val⟩,
  ⟨[4, 8], [], fun _ v w => ∃ g, v = .slice (some ⟨g, 0, none⟩) 2 2 ∧ Mm.Bk w g 41 (flat [x, x])⟩]
def laws7D : List (Option Nat) := [some 39, some 40, some 41, some 42, some 43, some 44, some 45, some 46, some 47, some 48]
theorem laws7St (b o nl cl i : Nat) (A5 : Option Addr) (nb c5 : Nat) (x : Tp) : Fr.Stables (laws7S b o nl cl i A5 nb c5 x) :=
  ⟨fun _ _ _ _ _ h => h, fun _ _ _ _ _ h => h, fun _ _ _ _ _ h => h, fun _ _ _ _ _ h => h, fun _ _ _ _ _ h => h, fun _ _ _ _ _ h => h, fun _ _ _ _ _ h => h, fun _ _ _ _ _ h => h, fun _ _ _ _ _ h => h, fun _ _ _ _ hb h => Lws.keepBk hb h, trivial⟩

def laws18S (A5 : Option Addr) (nb c5 : Nat) (As : Option Addr) (ns cs : Nat) (Al : Option Addr) (nl cl kk : Nat) (Ak : Option Addr) (nk ck : Nat) (bin bb : Bool) (t : Tp) (za zb : List Int) : List Fr.Sp := [
  ⟨[], [13], fun _ v _ => v = .slice A5 nb c5⟩,
  ⟨[0], [], fun _ v w => ∃ A n c, v = .slice A n c ∧ At w A n c (ofL (tames za))⟩,
  ⟨[], [15], fun _ v _ => v = .slice As ns cs⟩,
  ⟨[1, 2], [], fun _ v _ => v = .bool true⟩,
  ⟨[3], [], fun _ v _ => v = .bool true⟩,
  ⟨[4], [9], fun _ v _ => v = .slice Al nl cl⟩,
  ⟨[4], [12], fun _ v _ => v = .int .i64 kk⟩,
  ⟨[5, 6, 4], [], fun _ v _ => v = .slice Al kk cl⟩,
  ⟨[4], [9], fun _ v _ => v = .slice Al nl cl⟩,
  ⟨[4], [12], fun _ v _ => v = .int .i64 kk⟩,
  ⟨[8, 9, 4], [], fun _ v _ => v = .slice (if cl = kk then Al else Al.map (·.add (kk * 6))) (nl - kk) (cl - kk)⟩,
  ⟨[7, 10, 4], [], fun _ v w => ∃ A n c, v = .slice A n c ∧ At w A n c (ofL (tames za))⟩,
  ⟨[4], [15], fun _ v _ => v = .slice As ns cs⟩,
  ⟨[11, 12, 4], [], fun _ v _ => v = .bool true⟩,
  ⟨[4, 13], [], fun _ v _ => v = .bool true⟩,
  ⟨[14], [], fun _ v _ => v = .bool true⟩,
  ⟨[15], [15], fun _ v _ => v = .slice As ns cs⟩,
  ⟨[16, 15], [], fun _ v _ => v = .bool true⟩,
  ⟨[15, 17], [], fun _ v _ => v = .bool true⟩,
  ⟨[18], [], fun _ v _ => v = .bool true⟩,
  ⟨[19], [15], fun _ v _ => v = .slice As ns cs⟩,
  ⟨[19], [11], fun _ v _ => v = t.val⟩,
  ⟨[20, 21, 19], [], fun _ v _ => v = .bool bin⟩,
  ⟨[19], [16], fun _ v _ => v = .bool bin⟩,
  ⟨[22, 23, 19], [], fun _ v _ => v = .bool true⟩,
  ⟨[19, 24], [], fun _ v _ => v = .bool true⟩,
  ⟨[25], [], fun _ v _ => v = .bool true⟩,
  ⟨[26], [9], fun _ v _ => v = .slice Al nl cl⟩,
  ⟨[26], [10], fun _ v _ => v = .slice Ak nk ck⟩,
  ⟨[27, 28, 26], [], fun _ v w => ∃ A n c, v = .slice A n c ∧ At w A n c (ofL (tames za ++ tames zb))⟩,
  ⟨[26], [11], fun _ v _ => v = t.val⟩,
  ⟨[29, 30, 26], [], fun _ v _ => v = .bool (bin || bb)⟩,
  ⟨[26], [16], fun _ v _ => v = .bool bin⟩,
  ⟨[32, 26], [], fun _ v _ => v = .bool bin⟩,
  ⟨[33], [17], fun _ v _ => bin = false → v = .bool bb⟩,
  ⟨[33, 34, 26], [], fun _ v _ => v = .bool (bin || bb)⟩,
  ⟨[31, 35, 26], [], fun _ v _ => v = .bool true⟩,
  ⟨[26, 36], [], fun _ v _ => v = .bool true⟩,
  ⟨[37], [], fun _ v _ => v = .bool true⟩,
  ⟨[38], [9], fun _ v _ => v = .slice Al nl cl⟩,
  ⟨[38], [10], fun _ v _ => v = .slice Ak nk ck⟩,
  ⟨[39, 40, 38], [], fun _ v w => ∃ A n c, v = .slice A n c ∧ At w A n c (minus (tames za) (tames zb))⟩,
  ⟨[38], [11], fun _ v _ => v = t.val⟩,
  ⟨[41, 42, 38], [], fun _ v _ => v = .bool (bin && !bb)⟩,
  ⟨[38], [16], fun _ v _ => v = .bool bin⟩,
  ⟨[44, 38], [], fun _ v _ => v = .bool bin⟩,
  ⟨[45], [17], fun _ v _ => bin = true → v = .bool bb⟩,
  ⟨[46, 45], [], fun _ v _ => bin = true → v = .bool (!bb)⟩,
  ⟨[45, 47, 38], [], fun _ v _ => v = .bool (bin && !bb)⟩,
  ⟨[43, 48, 38], [], fun _ v _ => v = .bool true⟩,
  ⟨[38, 49], [], fun _ v _ => v = .bool true⟩,
  ⟨[50], [], fun _ v _ => v = .bool true⟩,
  ⟨[51], [], fun _ v _ => ∃ A c, v = .slice A 0 c⟩,
  ⟨[52, 51], [], fun _ v _ => v = .int .i64 0⟩,
  ⟨[53, 51], [], fun _ v _ => v = .bool true⟩,
  ⟨[51, 54], [], fun _ v _ => v = .bool true⟩,
  ⟨[55], [], fun _ v _ => v = .bool true⟩,
  ⟨[56], [], fun _ v _ => v = .bool true⟩,
  ⟨[56, 57], [], fun _ v _ => v = .bool true⟩,
  ⟨[58], [], fun _ v _ => v = .bool true⟩]
def laws18D : List (Option Nat) := [some 82, some 83, some 84, some 85, some 86, some 87, some 88, some 89, some 90, some 91, some 92, some 93, some 94, some 95, some 96, some 97, some 98, some 99, some 100, some 101, some 102, some 103, some 104, some 105, some 106, some 107, some 108, some 109, some 110, some 111, some 112, some 113, some 114, some 115, some 116, some 117, some 118, some 119, some 120, some 121, some 122, some 123, some 124, some 125, some 126, some 127, some 128, some 129, some 130, some 131, some 132, some 133, some 134, some 135, some 136, some 137, some 138, some 139, some 140, some 8]
theorem laws18St (A5 : Option Addr) (nb c5 : Nat) (As : Option Addr) (ns cs : Nat) (Al : Option Addr) (nl cl kk : Nat) (Ak : Option Addr) (nk ck : Nat) (bin bb : Bool) (t : Tp) (za zb : List Int) : Fr.Stables (laws18S A5 nb c5 As ns cs Al nl cl kk Ak nk ck bin bb t za zb) :=
  ⟨fun _ _ _ _ _ h => h, fun _ _ _ _ hb h => Lws.keepSl hb h, fun _ _ _ _ _ h => h, fun _ _ _ _ _ h => h, fun _ _ _ _ _ h => h, fun _ _ _ _ _ h => h, fun _ _ _ _ _ h => h, fun _ _ _ _ _ h => h, fun _ _ _ _ _ h => h, fun _ _ _ _ _ h => h, fun _ _ _ _ _ h => h, fun _ _ _ _ hb h => Lws.keepSl hb h, fun _ _ _ _ _ h => h, fun _ _ _ _ _ h => h, fun _ _ _ _ _ h => h, fun _ _ _ _ _ h => h, fun _ _ _ _ _ h => h, fun _ _ _ _ _ h => h, fun _ _ _ _ _ h => h, fun _ _ _ _ _ h => h, fun _ _ _ _ _ h => h, fun _ _ _ _ _ h => h, fun _ _ _ _ _ h => h, fun _ _ _ _ _ h => h, fun _ _ _ _ _ h => h, fun _ _ _ _ _ h => h, fun _ _ _ _ _ h => h, fun _ _ _ _ _ h => h, fun _ _ _ _ _ h => h, fun _ _ _ _ hb h => Lws.keepSl hb h, fun _ _ _ _ _ h => h, fun _ _ _ _ _ h => h, fun _ _ _ _ _ h => h, fun _ _ _ _ _ h => h, fun _ _ _ _ _ h => h, fun _ _ _ _ _ h => h, fun _ _ _ _ _ h => h, fun _ _ _ _ _ h => h, fun _ _ _ _ _ h => h, fun _ _ _ _ _ h => h, fun _ _ _ _ _ h => h, fun _ _ _ _ hb h => Lws.keepSl hb h, fun _ _ _ _ _ h => h, fun _ _ _ _ _ h => h, fun _ _ _ _ _ h => h, fun _ _ _ _ _ h => h, fun _ _ _ _ _ h => h, fun _ _ _ _ _ h => h, fun _ _ _ _ _ h => h, fun _ _ _ _ _ h => h, fun _ _ _ _ _ h => h, fun _ _ _ _ _ h => h, fun _ _ _ _ _ h => h, fun _ _ _ _ _ h => h, fun _ _ _ _ _ h => h, fun _ _ _ _ _ h => h, fun _ _ _ _ _ h => h, fun _ _ _ _ _ h => h, fun _ _ _ _ _ h => h, fun _ _ _ _ _ h => h, trivial⟩

set_option maxRecDepth 100000 in
set_option maxHeartbeats 4000000 in
theorem laws_any (A B : Option Addr) (n c m d : Nat) (za zb : List Int) (cut z : Int) (w : World) (ha0 : Ints w A n za) (hb0 : Ints w B m zb) :
    Calls Try.prog 6 #[.slice A n c, .slice B m d, .int .i64 cut, .int .i64 z] w fun e w' => e = .returned (.bool true) ∧ Below w.heap.size w w' := by
  obtain ⟨i0, hi0, hz0, hz1, hz2⟩ := info_parts Of.infoTp
  have HZA := Lib.hid ha0
  have HZB := Lib.hid hb0
  have TL := tames_len za
  have TM := tames_len zb
  have hcon := fun W => Tame.tame_any z W
  generalize Tame.tame z = t at *
  unfold Tp.val at hcon
  have HCON := Lib.hid hcon
  clear ha0 hb0 hcon
  have heq := TEq.eql
  simp only [Tp.val] at heq
  go_enter Try.func6, Try.ntmps6
  go_wp2_with fail
  refine (Tames.tames_any A n c za _ HZA.out).mono ?_
  rintro e w1 ⟨Al, nl, cl, rfl, ha, hb⟩
  replace HZA := Lib.hid (HZA.out.ext hb)
  replace HZB := Lib.hid (HZB.out.ext hb)
  have Hl := Lib.hid ha
  have hw1 : Below w.heap.size w w1 := hb
  clear hb ha
  go_wp2_with fail
  refine (Tames.tames_any B m d zb _ HZB.out).mono ?_
  rintro e w2 ⟨Ak, nk, ck, rfl, ha, hb⟩
  replace HZA := Lib.hid (HZA.out.ext hb)
  replace HZB := Lib.hid (HZB.out.ext hb)
  replace Hl := Lib.hid (Hl.out.ext hb)
  have Hk := Lib.hid ha
  have hw2 : Below w.heap.size w w2 := hw1.trans (hb.mono hw1.size)
  clear hb ha hw1
  clear HZA HZB
  go_wp2_with fail
  refine (HCON.out _).mono ?_
  rintro e w3 ⟨rfl, hb⟩
  replace Hl := Lib.hid (Hl.out.ext hb)
  replace Hk := Lib.hid (Hk.out.ext hb)
  have hw3 : Below w.heap.size w w3 := hw2.trans (hb.mono hw2.size)
  clear hb  hw2
  have a1 := Pl.and255 cut
  have lb := at_le Hl.out TL
  have lb2 := at_le Hk.out TM
  have e1 : IntKind.i64.wrap ((nl : Int) + 1) = (nl : Int) + 1 := IntWalk.i64_in _ (by omega)
  have e2 : IntKind.i64.wrap ((nl : Int) - 1) = (nl : Int) - 1 := IntWalk.i64_in _ (by omega)
  have e3 : (cut % 256).tmod ((nl : Int) + 1) = cut % 256 % ((nl : Int) + 1) := Int.tmod_eq_emod_of_nonneg (by omega)
  obtain ⟨kk, hkk, hkl⟩ : ∃ kk : Nat, cut % 256 % ((nl : Int) + 1) = kk ∧ kk ≤ nl := ⟨(cut % 256 % ((nl : Int) + 1)).toNat, by
    have := Int.emod_nonneg (cut % 256) (show (nl : Int) + 1 ≠ 0 by omega)
    omega, by
    have h1 := Int.emod_nonneg (cut % 256) (show (nl : Int) + 1 ≠ 0 by omega)
    have h2 := Int.emod_lt_of_pos (cut % 256) (show 0 < (nl : Int) + 1 by omega)
    omega⟩
  have e4 : ((nl : Int) + 1 = 0) = False := by
    rw [eq_iff_iff, iff_false]
    omega
  go_wp2_with fail
  have hk0 : Mm.Bk (w3.alloc (.cells t.enc.toArray 41)) w3.heap.size 41 t.enc := Mm.Bk.new w3 _ _
  have hb : Below w3.heap.size w3 (w3.alloc (.cells t.enc.toArray 41)) := (Below.refl _ _).alloc (Nat.le_refl _) _
  replace Hl := Lib.hid (Hl.out.ext hb)
  replace Hk := Lib.hid (Hk.out.ext hb)
  have hw4 := hw3.trans (hb.mono hw3.size)
  clear hb hw3 a1 e1 e2 e3 e4 hkk
  unfold Tp.enc at hk0 Hl Hk hw4
  generalize w3.alloc (.cells [Value.string t.ot, .string t.oi, .string t.rl, .string t.st, .string t.si, .string t.sr].toArray 41) = w4 at *
  generalize w3.heap.size = p1 at *
  have HT0 : Hid (Mm.Bk w4 p1 41 t.enc) := Lib.hid hk0
  clear hk0
  go_loopg [13, 14] nl (fun gh s13 s14 wr => ∃ (j nb : Nat) (z : Int) (A5 : Option Addr) (c5 : Nat) (ys : List Tp), j ≤ nl ∧ j ≤ gh ∧ s14 = .int .i64 z ∧ z = (j : Int) - 1 ∧ s13 = .slice A5 nb c5 ∧ Hid (wr.ownsRow w4.heap.size 41 6 (.slice A5 nb c5) nb (flat ys)) ∧ nb + 2 * j ≤ 2 * nl ∧ Hid (∀ x, x ∈ ys ↔ x ∈ (tames za).drop j) ∧ Below w4.heap.size w4 wr)
  case atStart => exact ⟨nl, 0, (nl : Int) - 1, none, 0, [], Nat.le_refl _, Nat.le_refl _, rfl, rfl, rfl, Lib.hid ⟨by simp [flat], .inl ⟨rfl, rfl⟩⟩, by omega, Lib.hid (fun x => by rw [List.drop_of_length_le (by rw [Hl.out.len]; exact Nat.le_refl _)]), Below.refl _ _⟩
  case round =>
    obtain ⟨j, nb, z2, A5, c5, ys, hj, hg, rfl, hz14, rfl, HO, hnb, HY, hbel⟩ := hrel
    cases j with
    | zero =>
      have hs : z2 = -1 := by omega
      subst hs
      clear hz14
      have hw5 : Below w.heap.size w wr := hw4.trans (hbel.mono hw4.size)
      replace Hl := Lib.hid (Hl.out.ext hbel)
      replace Hk := Lib.hid (Hk.out.ext hbel)
      replace HT0 := Lib.hid (HT0.out.ext hbel)
      have Hbk := Lib.hid (At.of_own HO.out)
      clear hw4 hbel HO
      generalize wr = w5 at *
      go_wp2_with fail
      refine (RowsOf.of_any Al nl cl (tames za) _ Hl.out (at_b Hl.out TL)).mono ?_
      rintro e w6 ⟨As, ns, cs, rfl, ha, hb⟩
      replace Hl := Lib.hid (Hl.out.ext hb)
      replace Hk := Lib.hid (Hk.out.ext hb)
      replace HT0 := Lib.hid (HT0.out.ext hb)
      replace Hbk := Lib.hid (Hbk.out.ext hb)
      have Hs := Lib.hid ha
      have hw6 : Below w.heap.size w w6 := hw5.trans (hb.mono hw5.size)
      clear hb ha hw5
      go_wp2_with fail
      go_loopg [16, 18] nl (fun gh s16 s18 wr => ∃ (k : Nat) (bb : Bool), k ≤ nl ∧ nl - k ≤ gh ∧ s18 = .int .i64 k ∧ s16 = .bool bb ∧ Hid (bb = decide (t ∈ (tames za).take k)) ∧ Below w6.heap.size w6 wr)
      case atStart => exact ⟨0, false, by omega, by omega, rfl, rfl, Lib.hid (by simp), Below.refl _ _⟩
      case round =>
        obtain ⟨k, bb, hk, hg, rfl, rfl, HB, hbel⟩ := hrel
        by_cases hlt : k < nl
        · obtain ⟨b, o, rfl, hbx, hcx⟩ := Same.get_at Hl.out hlt
          obtain ⟨q0, q1, q2, q3, q4, q5⟩ := (hcx.keep fun i => hbel.cell (p := ⟨b, i, none⟩) hbx).cells
          obtain ⟨r0, r1, r2, r3, r4, r5⟩ := Tp.cells (HT0.out.ext hbel)
          have htk := take_mem (t := t) (show k < (tames za).length by rw [Hl.out.len]; exact hlt)
          clear hcx hbx
          generalize (tames za)[k]! = x at *
          have HTK := Lib.hid htk
          clear htk
          have s1 : (k : Int) < nl := by omega
          have s2 : (0 : Int) ≤ k := by omega
          cases bb with
          | true =>
            go_wp2_with fail
            go_quiet (fail)
            clear q0 q1 q2 q3 q4 q5 r0 r1 r2 r3 r4 r5
            go_wp2
            go_roundg (nl - (k + 1))
            case measure => omega
            case rel => exact ⟨k + 1, true, by omega, Nat.le_refl _, by go_num, rfl, Lib.hid (HTK.out.of_true HB.out), below_drewN hbel _⟩
          | false =>
            by_cases hxt : x = t
            · have hd : decide (x = t) = true := by simpa using hxt
              have HXT := Lib.hid hxt
              clear hxt
              go_wp2_with fail
              go_quiet (fail)
              clear q0 q1 q2 q3 q4 q5 r0 r1 r2 r3 r4 r5 hd
              go_wp2
              go_roundg (nl - (k + 1))
              case measure => omega
              case rel => exact ⟨k + 1, true, by omega, Nat.le_refl _, by go_num, rfl, Lib.hid (HTK.out.of_eq HXT.out), below_drewN hbel _⟩
            · have hd : decide (x = t) = false := by simpa using hxt
              have HXT := Lib.hid hxt
              clear hxt
              go_wp2_with fail
              go_quiet (fail)
              clear q0 q1 q2 q3 q4 q5 r0 r1 r2 r3 r4 r5 hd
              go_wp2
              go_roundg (nl - (k + 1))
              case measure => omega
              case rel => exact ⟨k + 1, false, by omega, Nat.le_refl _, by go_num, rfl, Lib.hid (HTK.out.of_false HB.out HXT.out), below_drewN hbel _⟩
        · have hw7 : Below w.heap.size w wr := hw6.trans (hbel.mono hw6.size)
          have s1 : ¬ (k : Int) < nl := by omega
          replace Hl := Lib.hid (Hl.out.ext hbel)
          replace Hk := Lib.hid (Hk.out.ext hbel)
          replace Hbk := Lib.hid (Hbk.out.ext hbel)
          replace Hs := Lib.hid (Hs.out.ext hbel)
          replace HT0 := Lib.hid (HT0.out.ext hbel)
          have HIN : Hid (bb = decide (t ∈ tames za)) := Lib.hid (by have h1 := HB.out; rwa [List.take_of_length_le (by rw [Hl.out.len]; omega)] at h1)
          clear hw6 hbel HB
          generalize wr = w7 at *
          generalize bb = bin at *
          clear s1
          go_wp2_with fail
          go_loopg [17, 19] nk (fun gh s17 s19 wr => ∃ (k : Nat) (bb : Bool), k ≤ nk ∧ nk - k ≤ gh ∧ s19 = .int .i64 k ∧ s17 = .bool bb ∧ Hid (bb = decide (t ∈ (tames zb).take k)) ∧ Below w7.heap.size w7 wr)
          case atStart => exact ⟨0, false, by omega, by omega, rfl, rfl, Lib.hid (by simp), Below.refl _ _⟩
          case round =>
            obtain ⟨k, bb, hk, hg, rfl, rfl, HB, hbel⟩ := hrel
            by_cases hlt : k < nk
            · obtain ⟨b, o, rfl, hbx, hcx⟩ := Same.get_at Hk.out hlt
              obtain ⟨q0, q1, q2, q3, q4, q5⟩ := (hcx.keep fun i => hbel.cell (p := ⟨b, i, none⟩) hbx).cells
              obtain ⟨r0, r1, r2, r3, r4, r5⟩ := Tp.cells (HT0.out.ext hbel)
              have htk := take_mem (t := t) (show k < (tames zb).length by rw [Hk.out.len]; exact hlt)
              clear hcx hbx
              generalize (tames zb)[k]! = x at *
              have HTK := Lib.hid htk
              clear htk
              have s1 : (k : Int) < nk := by omega
              have s2 : (0 : Int) ≤ k := by omega
              cases bb with
              | true =>
                go_wp2_with fail
                go_quiet (fail)
                clear q0 q1 q2 q3 q4 q5 r0 r1 r2 r3 r4 r5
                go_wp2
                go_roundg (nk - (k + 1))
                case measure => omega
                case rel => exact ⟨k + 1, true, by omega, Nat.le_refl _, by go_num, rfl, Lib.hid (HTK.out.of_true HB.out), below_drewN hbel _⟩
              | false =>
                by_cases hxt : x = t
                · have hd : decide (x = t) = true := by simpa using hxt
                  have HXT := Lib.hid hxt
                  clear hxt
                  go_wp2_with fail
                  go_quiet (fail)
                  clear q0 q1 q2 q3 q4 q5 r0 r1 r2 r3 r4 r5 hd
                  go_wp2
                  go_roundg (nk - (k + 1))
                  case measure => omega
                  case rel => exact ⟨k + 1, true, by omega, Nat.le_refl _, by go_num, rfl, Lib.hid (HTK.out.of_eq HXT.out), below_drewN hbel _⟩
                · have hd : decide (x = t) = false := by simpa using hxt
                  have HXT := Lib.hid hxt
                  clear hxt
                  go_wp2_with fail
                  go_quiet (fail)
                  clear q0 q1 q2 q3 q4 q5 r0 r1 r2 r3 r4 r5 hd
                  go_wp2
                  go_roundg (nk - (k + 1))
                  case measure => omega
                  case rel => exact ⟨k + 1, false, by omega, Nat.le_refl _, by go_num, rfl, Lib.hid (HTK.out.of_false HB.out HXT.out), below_drewN hbel _⟩
            · have hw8 : Below w.heap.size w wr := hw7.trans (hbel.mono hw7.size)
              have s1 : ¬ (k : Int) < nk := by omega
              replace Hl := Lib.hid (Hl.out.ext hbel)
              replace Hk := Lib.hid (Hk.out.ext hbel)
              replace Hbk := Lib.hid (Hbk.out.ext hbel)
              replace Hs := Lib.hid (Hs.out.ext hbel)
              replace HT0 := Lib.hid (HT0.out.ext hbel)
              have HIS : Hid (bb = decide (t ∈ tames zb)) := Lib.hid (by have h1 := HB.out; rwa [List.take_of_length_le (by rw [Hk.out.len]; omega)] at h1)
              clear hw7 hbel HB
              generalize wr = w8 at *
              go_wp2_with fail
              have HKL := Lib.hid hkl
              have BNB : Hid (nb ≤ 200) := Lib.hid (by omega)
              have k1 : (kk : Int) ≤ cl := by have := Hl.out.cap; omega
              have k2 : (0 : Int) ≤ kk := by omega
              have k3 : (kk : Int) ≤ nl := by omega
              clear heq s1
              refine Fr.wp_region_free (by kernel_rfl) (laws18S A5 nb c5 As ns cs Al nl cl kk Ak nk ck bin bb t za zb) laws18D (by kernel_rfl) (by kernel_rfl) (laws18St _ _ _ _ _ _ _ _ _ _ _ _ _ _ _ _ _ _) ?_ ?_
              refine ⟨?_, ?_, ?_, ?_, ?_, ?_, ?_, ?_, ?_, ?_, ?_, ?_, ?_, ?_, ?_, ?_, ?_, ?_, ?_, ?_, ?_, ?_, ?_, ?_, ?_, ?_, ?_, ?_, ?_, ?_, ?_, ?_, ?_, ?_, ?_, ?_, ?_, ?_, ?_, ?_, ?_, ?_, ?_, ?_, ?_, ?_, ?_, ?_, ?_, ?_, ?_, ?_, ?_, ?_, ?_, ?_, ?_, ?_, ?_, ?_, trivial⟩
              · -- 0: Op.move t13
                intro f a w K hE hA hO hF hK
                have o13 : a.tmps[13]? = some (.slice A5 nb c5) := (hO 13 (by simp)).trans rfl
                clear hA hO hF
                go_simp; exact hK _ _ (Below.refl _ _) (by first | trivial | rfl)
              · -- 1: Op.call { value (Operand.func 15), args := #[t82], argTypes := #[23] }
                intro f a w K hE hA hO hF hK
                have e82 : a.tmps[82]? = some (f 0) := hA 0 (by simp) 82 rfl
                have h0 : (f 0) = .slice A5 nb c5 := hF.1
                clear hA hO hF
                go_simp
                refine (RowsOf.of_any A5 nb c5 ys _ (Hbk.out.ext hE) (Nat.le_trans BNB.out (by decide))).mono ?_
                rintro e w2 ⟨A7, n7, c7, rfl, ha7, hb⟩
                rw [ofL_congr (b := tames za) (fun x => by rw [HY.out x, List.drop_zero])] at ha7
                exact ⟨_, rfl, hK _ _ hb ⟨A7, n7, c7, rfl, ha7⟩⟩
              · -- 2: Op.move t15
                intro f a w K hE hA hO hF hK
                have o15 : a.tmps[15]? = some (.slice As ns cs) := (hO 15 (by simp)).trans rfl
                clear hA hO hF
                go_simp; exact hK _ _ (Below.refl _ _) (by first | trivial | rfl)
              · -- 3: Op.call { value (Operand.func 17), args := #[t83, t84], argTypes := #[23, 23] }
                intro f a w K hE hA hO hF hK
                have e83 : a.tmps[83]? = some (f 1) := hA 1 (by simp) 83 rfl
                have e84 : a.tmps[84]? = some (f 2) := hA 2 (by simp) 84 rfl
                have h1 : ∃ A n c, (f 1) = .slice A n c ∧ At w A n c (ofL (tames za)) := hF.1
                have h2 : (f 2) = .slice As ns cs := hF.2.1
                clear hA hO hF
                obtain ⟨A7, n7, c7, h1, ha7⟩ := h1
                go_simp
                refine (same_true A7 As n7 c7 ns cs _ _ _ ha7 (Hs.out.ext hE) (at_b ha7 (of80 TL)) rfl).mono ?_
                rintro e w2 ⟨rfl, hb⟩
                exact ⟨_, rfl, hK _ _ hb rfl⟩
              · -- 4: Op.move t85
                intro f a w K hE hA hO hF hK
                have e85 : a.tmps[85]? = some (f 3) := hA 3 (by simp) 85 rfl
                have h3 : (f 3) = .bool true := hF.1
                clear hA hO hF
                go_simp; exact hK _ _ (Below.refl _ _) (by first | trivial | rfl)
              · -- 5: Op.move t9
                intro f a w K hE hA hO hF hK
                have e86 : a.tmps[86]? = some (f 4) := hA 4 (by simp) 86 rfl
                have o9 : a.tmps[9]? = some (.slice Al nl cl) := (hO 9 (by simp)).trans rfl
                have h4 : (f 4) = .bool true := hF.1
                clear hA hO hF
                go_simp; exact hK _ _ (Below.refl _ _) (by first | trivial | rfl)
              · -- 6: Op.move t12
                intro f a w K hE hA hO hF hK
                have e86 : a.tmps[86]? = some (f 4) := hA 4 (by simp) 86 rfl
                have o12 : a.tmps[12]? = some (.int .i64 kk) := (hO 12 (by simp)).trans rfl
                have h4 : (f 4) = .bool true := hF.1
                clear hA hO hF
                go_simp; exact hK _ _ (Below.refl _ _) (by first | trivial | rfl)
              · -- 7: Op.slice 23 t87 none (some t88) none
                intro f a w K hE hA hO hF hK
                have e87 : a.tmps[87]? = some (f 5) := hA 5 (by simp) 87 rfl
                have e88 : a.tmps[88]? = some (f 6) := hA 6 (by simp) 88 rfl
                have e86 : a.tmps[86]? = some (f 4) := hA 4 (by simp) 86 rfl
                have h5 : (f 5) = .slice Al nl cl := hF.1
                have h6 : (f 6) = .int .i64 kk := hF.2.1
                have h4 : (f 4) = .bool true := hF.2.2.1
                clear hA hO hF
                go_simp; exact hK _ _ (Below.refl _ _) (by first | trivial | rfl)
              · -- 8: Op.move t9
                intro f a w K hE hA hO hF hK
                have e86 : a.tmps[86]? = some (f 4) := hA 4 (by simp) 86 rfl
                have o9 : a.tmps[9]? = some (.slice Al nl cl) := (hO 9 (by simp)).trans rfl
                have h4 : (f 4) = .bool true := hF.1
                clear hA hO hF
                go_simp; exact hK _ _ (Below.refl _ _) (by first | trivial | rfl)
              · -- 9: Op.move t12
                intro f a w K hE hA hO hF hK
                have e86 : a.tmps[86]? = some (f 4) := hA 4 (by simp) 86 rfl
                have o12 : a.tmps[12]? = some (.int .i64 kk) := (hO 12 (by simp)).trans rfl
                have h4 : (f 4) = .bool true := hF.1
                clear hA hO hF
                go_simp; exact hK _ _ (Below.refl _ _) (by first | trivial | rfl)
              · -- 10: Op.slice 23 t90 (some t91) none none
                intro f a w K hE hA hO hF hK
                have e90 : a.tmps[90]? = some (f 8) := hA 8 (by simp) 90 rfl
                have e91 : a.tmps[91]? = some (f 9) := hA 9 (by simp) 91 rfl
                have e86 : a.tmps[86]? = some (f 4) := hA 4 (by simp) 86 rfl
                have h8 : (f 8) = .slice Al nl cl := hF.1
                have h9 : (f 9) = .int .i64 kk := hF.2.1
                have h4 : (f 4) = .bool true := hF.2.2.1
                clear hA hO hF
                go_simp; exact hK _ _ (Below.refl _ _) (by first | trivial | rfl)
              · -- 11: Op.call { value (Operand.func 18), args := #[t89, t92], argTypes := #[23, 23] }
                intro f a w K hE hA hO hF hK
                have e89 : a.tmps[89]? = some (f 7) := hA 7 (by simp) 89 rfl
                have e92 : a.tmps[92]? = some (f 10) := hA 10 (by simp) 92 rfl
                have e86 : a.tmps[86]? = some (f 4) := hA 4 (by simp) 86 rfl
                have h7 : (f 7) = .slice Al kk cl := hF.1
                have h10 : (f 10) = .slice (if cl = kk then Al else Al.map (·.add (kk * 6))) (nl - kk) (cl - kk) := hF.2.1
                have h4 : (f 4) = .bool true := hF.2.2.1
                clear hA hO hF
                go_simp
                refine (plus_any _ _ kk cl (nl - kk) (cl - kk) _ _ _ ((Hl.out.ext hE).take HKL.out) ((Hl.out.ext hE).drop HKL.out) (by have := HKL.out; omega) (by omega)).mono ?_
                rintro e w2 ⟨A7, n7, c7, rfl, ha7, hb⟩
                rw [List.take_append_drop] at ha7
                exact ⟨_, rfl, hK _ _ hb ⟨A7, n7, c7, rfl, ha7⟩⟩
              · -- 12: Op.move t15
                intro f a w K hE hA hO hF hK
                have e86 : a.tmps[86]? = some (f 4) := hA 4 (by simp) 86 rfl
                have o15 : a.tmps[15]? = some (.slice As ns cs) := (hO 15 (by simp)).trans rfl
                have h4 : (f 4) = .bool true := hF.1
                clear hA hO hF
                go_simp; exact hK _ _ (Below.refl _ _) (by first | trivial | rfl)
              · -- 13: Op.call { value (Operand.func 17), args := #[t93, t94], argTypes := #[23, 23] }
                intro f a w K hE hA hO hF hK
                have e93 : a.tmps[93]? = some (f 11) := hA 11 (by simp) 93 rfl
                have e94 : a.tmps[94]? = some (f 12) := hA 12 (by simp) 94 rfl
                have e86 : a.tmps[86]? = some (f 4) := hA 4 (by simp) 86 rfl
                have h11 : ∃ A n c, (f 11) = .slice A n c ∧ At w A n c (ofL (tames za)) := hF.1
                have h12 : (f 12) = .slice As ns cs := hF.2.1
                have h4 : (f 4) = .bool true := hF.2.2.1
                clear hA hO hF
                obtain ⟨A7, n7, c7, h11, ha7⟩ := h11
                go_simp
                refine (same_true A7 As n7 c7 ns cs _ _ _ ha7 (Hs.out.ext hE) (at_b ha7 (of80 TL)) rfl).mono ?_
                rintro e w2 ⟨rfl, hb⟩
                exact ⟨_, rfl, hK _ _ hb rfl⟩
              · -- 14: Op.pick t86 t95 (const (Value.bool false))
                intro f a w K hE hA hO hF hK
                have e86 : a.tmps[86]? = some (f 4) := hA 4 (by simp) 86 rfl
                have e95 : a.tmps[95]? = some (f 13) := hA 13 (by simp) 95 rfl
                have h4 : (f 4) = .bool true := hF.1
                have h13 : (f 13) = .bool true := hF.2.1
                clear hA hO hF
                go_simp; exact hK _ _ (Below.refl _ _) (by first | trivial | rfl)
              · -- 15: Op.move t96
                intro f a w K hE hA hO hF hK
                have e96 : a.tmps[96]? = some (f 14) := hA 14 (by simp) 96 rfl
                have h14 : (f 14) = .bool true := hF.1
                clear hA hO hF
                go_simp; exact hK _ _ (Below.refl _ _) (by first | trivial | rfl)
              · -- 16: Op.move t15
                intro f a w K hE hA hO hF hK
                have e97 : a.tmps[97]? = some (f 15) := hA 15 (by simp) 97 rfl
                have o15 : a.tmps[15]? = some (.slice As ns cs) := (hO 15 (by simp)).trans rfl
                have h15 : (f 15) = .bool true := hF.1
                clear hA hO hF
                go_simp; exact hK _ _ (Below.refl _ _) (by first | trivial | rfl)
              · -- 17: Op.call { value (Operand.func 22), args := #[t98], argTypes := #[23] }
                intro f a w K hE hA hO hF hK
                have e98 : a.tmps[98]? = some (f 16) := hA 16 (by simp) 98 rfl
                have e97 : a.tmps[97]? = some (f 15) := hA 15 (by simp) 97 rfl
                have h16 : (f 16) = .slice As ns cs := hF.1
                have h15 : (f 15) = .bool true := hF.2.1
                clear hA hO hF
                go_simp
                refine (is_true As ns cs _ _ (Hs.out.ext hE) (rises_ofL _) (at_b Hs.out (of80 TL))).mono ?_
                rintro e w2 ⟨rfl, hb⟩
                exact ⟨_, rfl, hK _ _ hb rfl⟩
              · -- 18: Op.pick t97 t99 (const (Value.bool false))
                intro f a w K hE hA hO hF hK
                have e97 : a.tmps[97]? = some (f 15) := hA 15 (by simp) 97 rfl
                have e99 : a.tmps[99]? = some (f 17) := hA 17 (by simp) 99 rfl
                have h15 : (f 15) = .bool true := hF.1
                have h17 : (f 17) = .bool true := hF.2.1
                clear hA hO hF
                go_simp; exact hK _ _ (Below.refl _ _) (by first | trivial | rfl)
              · -- 19: Op.move t100
                intro f a w K hE hA hO hF hK
                have e100 : a.tmps[100]? = some (f 18) := hA 18 (by simp) 100 rfl
                have h18 : (f 18) = .bool true := hF.1
                clear hA hO hF
                go_simp; exact hK _ _ (Below.refl _ _) (by first | trivial | rfl)
              · -- 20: Op.move t15
                intro f a w K hE hA hO hF hK
                have e101 : a.tmps[101]? = some (f 19) := hA 19 (by simp) 101 rfl
                have o15 : a.tmps[15]? = some (.slice As ns cs) := (hO 15 (by simp)).trans rfl
                have h19 : (f 19) = .bool true := hF.1
                clear hA hO hF
                go_simp; exact hK _ _ (Below.refl _ _) (by first | trivial | rfl)
              · -- 21: Op.load 41 t11
                intro f a w K hE hA hO hF hK
                have e101 : a.tmps[101]? = some (f 19) := hA 19 (by simp) 101 rfl
                have o11 : a.tmps[11]? = some (.pointer (some ⟨p1, 0, none⟩)) := (hO 11 (by simp)).trans rfl
                have h19 : (f 19) = .bool true := hF.1
                clear hA hO hF
                obtain ⟨q0, q1, q2, q3, q4, q5⟩ := Tp.cells (HT0.out.ext hE)
                go_simp
                exact hK _ _ (Below.refl _ _) rfl
              · -- 22: Op.call { value (Operand.func 26), args := #[t102, t103], argTypes := #[23, 41] }
                intro f a w K hE hA hO hF hK
                have e102 : a.tmps[102]? = some (f 20) := hA 20 (by simp) 102 rfl
                have e103 : a.tmps[103]? = some (f 21) := hA 21 (by simp) 103 rfl
                have e101 : a.tmps[101]? = some (f 19) := hA 19 (by simp) 101 rfl
                have h20 : (f 20) = .slice As ns cs := hF.1
                have h21 : (f 21) = t.val := hF.2.1
                have h19 : (f 19) = .bool true := hF.2.2.1
                clear hA hO hF
                rw [Tp.val] at h21
                go_simp
                refine (has_val As ns cs _ t _ (Hs.out.ext hE) (rises_ofL _) (at_b Hs.out (of80 TL)) bin (by rw [HIN.out]; simp only [mem_ofL])).mono ?_
                rintro e w2 ⟨rfl, hb⟩
                exact ⟨_, rfl, hK _ _ hb rfl⟩
              · -- 23: Op.move t16
                intro f a w K hE hA hO hF hK
                have e101 : a.tmps[101]? = some (f 19) := hA 19 (by simp) 101 rfl
                have o16 : a.tmps[16]? = some (.bool bin) := (hO 16 (by simp)).trans rfl
                have h19 : (f 19) = .bool true := hF.1
                clear hA hO hF
                go_simp; exact hK _ _ (Below.refl _ _) (by first | trivial | rfl)
              · -- 24: Op.binOp BinOp.eql 4 t104 t105 4
                intro f a w K hE hA hO hF hK
                have e104 : a.tmps[104]? = some (f 22) := hA 22 (by simp) 104 rfl
                have e105 : a.tmps[105]? = some (f 23) := hA 23 (by simp) 105 rfl
                have e101 : a.tmps[101]? = some (f 19) := hA 19 (by simp) 101 rfl
                have h22 : (f 22) = .bool bin := hF.1
                have h23 : (f 23) = .bool bin := hF.2.1
                have h19 : (f 19) = .bool true := hF.2.2.1
                clear hA hO hF
                go_simp
                exact hK _ _ (Below.refl _ _) (by cases bin <;> rfl)
              · -- 25: Op.pick t101 t106 (const (Value.bool false))
                intro f a w K hE hA hO hF hK
                have e101 : a.tmps[101]? = some (f 19) := hA 19 (by simp) 101 rfl
                have e106 : a.tmps[106]? = some (f 24) := hA 24 (by simp) 106 rfl
                have h19 : (f 19) = .bool true := hF.1
                have h24 : (f 24) = .bool true := hF.2.1
                clear hA hO hF
                go_simp; exact hK _ _ (Below.refl _ _) (by first | trivial | rfl)
              · -- 26: Op.move t107
                intro f a w K hE hA hO hF hK
                have e107 : a.tmps[107]? = some (f 25) := hA 25 (by simp) 107 rfl
                have h25 : (f 25) = .bool true := hF.1
                clear hA hO hF
                go_simp; exact hK _ _ (Below.refl _ _) (by first | trivial | rfl)
              · -- 27: Op.move t9
                intro f a w K hE hA hO hF hK
                have e108 : a.tmps[108]? = some (f 26) := hA 26 (by simp) 108 rfl
                have o9 : a.tmps[9]? = some (.slice Al nl cl) := (hO 9 (by simp)).trans rfl
                have h26 : (f 26) = .bool true := hF.1
                clear hA hO hF
                go_simp; exact hK _ _ (Below.refl _ _) (by first | trivial | rfl)
              · -- 28: Op.move t10
                intro f a w K hE hA hO hF hK
                have e108 : a.tmps[108]? = some (f 26) := hA 26 (by simp) 108 rfl
                have o10 : a.tmps[10]? = some (.slice Ak nk ck) := (hO 10 (by simp)).trans rfl
                have h26 : (f 26) = .bool true := hF.1
                clear hA hO hF
                go_simp; exact hK _ _ (Below.refl _ _) (by first | trivial | rfl)
              · -- 29: Op.call { value (Operand.func 18), args := #[t109, t110], argTypes := #[23, 23] }
                intro f a w K hE hA hO hF hK
                have e109 : a.tmps[109]? = some (f 27) := hA 27 (by simp) 109 rfl
                have e110 : a.tmps[110]? = some (f 28) := hA 28 (by simp) 110 rfl
                have e108 : a.tmps[108]? = some (f 26) := hA 26 (by simp) 108 rfl
                have h27 : (f 27) = .slice Al nl cl := hF.1
                have h28 : (f 28) = .slice Ak nk ck := hF.2.1
                have h26 : (f 26) = .bool true := hF.2.2.1
                clear hA hO hF
                go_simp
                refine (plus_any Al Ak nl cl nk ck _ _ _ (Hl.out.ext hE) (Hk.out.ext hE) (at_p Hl.out TL) (at_p Hk.out TM)).mono ?_
                rintro e w2 ⟨A7, n7, c7, rfl, ha7, hb⟩
                exact ⟨_, rfl, hK _ _ hb ⟨A7, n7, c7, rfl, ha7⟩⟩
              · -- 30: Op.load 41 t11
                intro f a w K hE hA hO hF hK
                have e108 : a.tmps[108]? = some (f 26) := hA 26 (by simp) 108 rfl
                have o11 : a.tmps[11]? = some (.pointer (some ⟨p1, 0, none⟩)) := (hO 11 (by simp)).trans rfl
                have h26 : (f 26) = .bool true := hF.1
                clear hA hO hF
                obtain ⟨q0, q1, q2, q3, q4, q5⟩ := Tp.cells (HT0.out.ext hE)
                go_simp
                exact hK _ _ (Below.refl _ _) rfl
              · -- 31: Op.call { value (Operand.func 26), args := #[t111, t112], argTypes := #[23, 41] }
                intro f a w K hE hA hO hF hK
                have e111 : a.tmps[111]? = some (f 29) := hA 29 (by simp) 111 rfl
                have e112 : a.tmps[112]? = some (f 30) := hA 30 (by simp) 112 rfl
                have e108 : a.tmps[108]? = some (f 26) := hA 26 (by simp) 108 rfl
                have h29 : ∃ A n c, (f 29) = .slice A n c ∧ At w A n c (ofL (tames za ++ tames zb)) := hF.1
                have h30 : (f 30) = t.val := hF.2.1
                have h26 : (f 26) = .bool true := hF.2.2.1
                clear hA hO hF
                obtain ⟨A7, n7, c7, h29, ha7⟩ := h29
                rw [Tp.val] at h30
                go_simp
                refine (has_val A7 n7 c7 _ t _ ha7 (rises_ofL _) (Nat.le_trans (at_le ha7 (Nat.le_trans (ofL_len _) (by rw [List.length_append]; exact Nat.add_le_add TL TM))) (by decide)) (bin || bb) (by rw [HIN.out, HIS.out, ← Bool.decide_or]; exact decide_eq_decide.2 (by rw [mem_ofL, List.mem_append]))).mono ?_
                rintro e w2 ⟨rfl, hb⟩
                exact ⟨_, rfl, hK _ _ hb rfl⟩
              · -- 32: Op.move t16
                intro f a w K hE hA hO hF hK
                have e108 : a.tmps[108]? = some (f 26) := hA 26 (by simp) 108 rfl
                have o16 : a.tmps[16]? = some (.bool bin) := (hO 16 (by simp)).trans rfl
                have h26 : (f 26) = .bool true := hF.1
                clear hA hO hF
                go_simp; exact hK _ _ (Below.refl _ _) (by first | trivial | rfl)
              · -- 33: Op.move t114
                intro f a w K hE hA hO hF hK
                have e114 : a.tmps[114]? = some (f 32) := hA 32 (by simp) 114 rfl
                have e108 : a.tmps[108]? = some (f 26) := hA 26 (by simp) 108 rfl
                have h32 : (f 32) = .bool bin := hF.1
                have h26 : (f 26) = .bool true := hF.2.1
                clear hA hO hF
                go_simp; exact hK _ _ (Below.refl _ _) (by first | trivial | rfl)
              · -- 34: Op.move t17
                intro f a w K hE hA hO hF hK
                have e115 : a.tmps[115]? = some (f 33) := hA 33 (by simp) 115 rfl
                have o17 : a.tmps[17]? = some (.bool bb) := (hO 17 (by simp)).trans rfl
                have h33 : (f 33) = .bool bin := hF.1
                clear hA hO hF
                cases bin with
                | false =>
                  go_simp
                  exact hK _ _ (Below.refl _ _) (fun _ => rfl)
                | true =>
                  go_simp
                  exact hK _ _ (Below.refl _ _) (fun e => by cases e)
              · -- 35: Op.pick t115 (const (Value.bool true)) t116
                intro f a w K hE hA hO hF hK
                have e115 : a.tmps[115]? = some (f 33) := hA 33 (by simp) 115 rfl
                have e116 : a.tmps[116]? = some (f 34) := hA 34 (by simp) 116 rfl
                have e108 : a.tmps[108]? = some (f 26) := hA 26 (by simp) 108 rfl
                have h33 : (f 33) = .bool bin := hF.1
                have h34 : bin = false → (f 34) = .bool bb := hF.2.1
                have h26 : (f 26) = .bool true := hF.2.2.1
                clear hA hO hF
                cases bin with
                | false =>
                  have h34 := h34 rfl
                  go_simp
                  exact hK _ _ (Below.refl _ _) rfl
                | true =>
                  go_simp
                  exact hK _ _ (Below.refl _ _) rfl
              · -- 36: Op.binOp BinOp.eql 4 t113 t117 4
                intro f a w K hE hA hO hF hK
                have e113 : a.tmps[113]? = some (f 31) := hA 31 (by simp) 113 rfl
                have e117 : a.tmps[117]? = some (f 35) := hA 35 (by simp) 117 rfl
                have e108 : a.tmps[108]? = some (f 26) := hA 26 (by simp) 108 rfl
                have h31 : (f 31) = .bool (bin || bb) := hF.1
                have h35 : (f 35) = .bool (bin || bb) := hF.2.1
                have h26 : (f 26) = .bool true := hF.2.2.1
                clear hA hO hF
                go_simp
                exact hK _ _ (Below.refl _ _) (by cases bin <;> cases bb <;> rfl)
              · -- 37: Op.pick t108 t118 (const (Value.bool false))
                intro f a w K hE hA hO hF hK
                have e108 : a.tmps[108]? = some (f 26) := hA 26 (by simp) 108 rfl
                have e118 : a.tmps[118]? = some (f 36) := hA 36 (by simp) 118 rfl
                have h26 : (f 26) = .bool true := hF.1
                have h36 : (f 36) = .bool true := hF.2.1
                clear hA hO hF
                go_simp; exact hK _ _ (Below.refl _ _) (by first | trivial | rfl)
              · -- 38: Op.move t119
                intro f a w K hE hA hO hF hK
                have e119 : a.tmps[119]? = some (f 37) := hA 37 (by simp) 119 rfl
                have h37 : (f 37) = .bool true := hF.1
                clear hA hO hF
                go_simp; exact hK _ _ (Below.refl _ _) (by first | trivial | rfl)
              · -- 39: Op.move t9
                intro f a w K hE hA hO hF hK
                have e120 : a.tmps[120]? = some (f 38) := hA 38 (by simp) 120 rfl
                have o9 : a.tmps[9]? = some (.slice Al nl cl) := (hO 9 (by simp)).trans rfl
                have h38 : (f 38) = .bool true := hF.1
                clear hA hO hF
                go_simp; exact hK _ _ (Below.refl _ _) (by first | trivial | rfl)
              · -- 40: Op.move t10
                intro f a w K hE hA hO hF hK
                have e120 : a.tmps[120]? = some (f 38) := hA 38 (by simp) 120 rfl
                have o10 : a.tmps[10]? = some (.slice Ak nk ck) := (hO 10 (by simp)).trans rfl
                have h38 : (f 38) = .bool true := hF.1
                clear hA hO hF
                go_simp; exact hK _ _ (Below.refl _ _) (by first | trivial | rfl)
              · -- 41: Op.call { value (Operand.func 16), args := #[t121, t122], argTypes := #[23, 23] }
                intro f a w K hE hA hO hF hK
                have e121 : a.tmps[121]? = some (f 39) := hA 39 (by simp) 121 rfl
                have e122 : a.tmps[122]? = some (f 40) := hA 40 (by simp) 122 rfl
                have e120 : a.tmps[120]? = some (f 38) := hA 38 (by simp) 120 rfl
                have h39 : (f 39) = .slice Al nl cl := hF.1
                have h40 : (f 40) = .slice Ak nk ck := hF.2.1
                have h38 : (f 38) = .bool true := hF.2.2.1
                clear hA hO hF
                go_simp
                refine (minus_any Al Ak nl cl nk ck _ _ _ (Hl.out.ext hE) (Hk.out.ext hE) (at_b Hl.out TL) (at_b Hk.out TM)).mono ?_
                rintro e w2 ⟨A7, n7, c7, rfl, ha7, hb⟩
                exact ⟨_, rfl, hK _ _ hb ⟨A7, n7, c7, rfl, ha7⟩⟩
              · -- 42: Op.load 41 t11
                intro f a w K hE hA hO hF hK
                have e120 : a.tmps[120]? = some (f 38) := hA 38 (by simp) 120 rfl
                have o11 : a.tmps[11]? = some (.pointer (some ⟨p1, 0, none⟩)) := (hO 11 (by simp)).trans rfl
                have h38 : (f 38) = .bool true := hF.1
                clear hA hO hF
                obtain ⟨q0, q1, q2, q3, q4, q5⟩ := Tp.cells (HT0.out.ext hE)
                go_simp
                exact hK _ _ (Below.refl _ _) rfl
              · -- 43: Op.call { value (Operand.func 26), args := #[t123, t124], argTypes := #[23, 41] }
                intro f a w K hE hA hO hF hK
                have e123 : a.tmps[123]? = some (f 41) := hA 41 (by simp) 123 rfl
                have e124 : a.tmps[124]? = some (f 42) := hA 42 (by simp) 124 rfl
                have e120 : a.tmps[120]? = some (f 38) := hA 38 (by simp) 120 rfl
                have h41 : ∃ A n c, (f 41) = .slice A n c ∧ At w A n c (minus (tames za) (tames zb)) := hF.1
                have h42 : (f 42) = t.val := hF.2.1
                have h38 : (f 38) = .bool true := hF.2.2.1
                clear hA hO hF
                obtain ⟨A7, n7, c7, h41, ha7⟩ := h41
                rw [Tp.val] at h42
                go_simp
                refine (has_val A7 n7 c7 _ t _ ha7 (rises_minus _ _) (at_b ha7 (mi80 _ TL)) (bin && !bb) (by rw [HIN.out, HIS.out, ← decide_not, ← Bool.decide_and]; exact decide_eq_decide.2 mem_minus)).mono ?_
                rintro e w2 ⟨rfl, hb⟩
                exact ⟨_, rfl, hK _ _ hb rfl⟩
              · -- 44: Op.move t16
                intro f a w K hE hA hO hF hK
                have e120 : a.tmps[120]? = some (f 38) := hA 38 (by simp) 120 rfl
                have o16 : a.tmps[16]? = some (.bool bin) := (hO 16 (by simp)).trans rfl
                have h38 : (f 38) = .bool true := hF.1
                clear hA hO hF
                go_simp; exact hK _ _ (Below.refl _ _) (by first | trivial | rfl)
              · -- 45: Op.move t126
                intro f a w K hE hA hO hF hK
                have e126 : a.tmps[126]? = some (f 44) := hA 44 (by simp) 126 rfl
                have e120 : a.tmps[120]? = some (f 38) := hA 38 (by simp) 120 rfl
                have h44 : (f 44) = .bool bin := hF.1
                have h38 : (f 38) = .bool true := hF.2.1
                clear hA hO hF
                go_simp; exact hK _ _ (Below.refl _ _) (by first | trivial | rfl)
              · -- 46: Op.move t17
                intro f a w K hE hA hO hF hK
                have e127 : a.tmps[127]? = some (f 45) := hA 45 (by simp) 127 rfl
                have o17 : a.tmps[17]? = some (.bool bb) := (hO 17 (by simp)).trans rfl
                have h45 : (f 45) = .bool bin := hF.1
                clear hA hO hF
                cases bin with
                | true =>
                  go_simp
                  exact hK _ _ (Below.refl _ _) (fun _ => rfl)
                | false =>
                  go_simp
                  exact hK _ _ (Below.refl _ _) (fun e => by cases e)
              · -- 47: Op.unOp UnOp.not 4 t128
                intro f a w K hE hA hO hF hK
                have e128 : a.tmps[128]? = some (f 46) := hA 46 (by simp) 128 rfl
                have e127 : a.tmps[127]? = some (f 45) := hA 45 (by simp) 127 rfl
                have h46 : bin = true → (f 46) = .bool bb := hF.1
                have h45 : (f 45) = .bool bin := hF.2.1
                clear hA hO hF
                cases bin with
                | true =>
                  have h46 := h46 rfl
                  go_simp
                  exact hK _ _ (Below.refl _ _) (fun _ => rfl)
                | false =>
                  go_simp
                  exact hK _ _ (Below.refl _ _) (fun e => by cases e)
              · -- 48: Op.pick t127 t129 (const (Value.bool false))
                intro f a w K hE hA hO hF hK
                have e127 : a.tmps[127]? = some (f 45) := hA 45 (by simp) 127 rfl
                have e129 : a.tmps[129]? = some (f 47) := hA 47 (by simp) 129 rfl
                have e120 : a.tmps[120]? = some (f 38) := hA 38 (by simp) 120 rfl
                have h45 : (f 45) = .bool bin := hF.1
                have h47 : bin = true → (f 47) = .bool (!bb) := hF.2.1
                have h38 : (f 38) = .bool true := hF.2.2.1
                clear hA hO hF
                cases bin with
                | true =>
                  have h47 := h47 rfl
                  go_simp
                  exact hK _ _ (Below.refl _ _) rfl
                | false =>
                  go_simp
                  exact hK _ _ (Below.refl _ _) rfl
              · -- 49: Op.binOp BinOp.eql 4 t125 t130 4
                intro f a w K hE hA hO hF hK
                have e125 : a.tmps[125]? = some (f 43) := hA 43 (by simp) 125 rfl
                have e130 : a.tmps[130]? = some (f 48) := hA 48 (by simp) 130 rfl
                have e120 : a.tmps[120]? = some (f 38) := hA 38 (by simp) 120 rfl
                have h43 : (f 43) = .bool (bin && !bb) := hF.1
                have h48 : (f 48) = .bool (bin && !bb) := hF.2.1
                have h38 : (f 38) = .bool true := hF.2.2.1
                clear hA hO hF
                go_simp
                exact hK _ _ (Below.refl _ _) (by cases bin <;> cases bb <;> rfl)
              · -- 50: Op.pick t120 t131 (const (Value.bool false))
                intro f a w K hE hA hO hF hK
                have e120 : a.tmps[120]? = some (f 38) := hA 38 (by simp) 120 rfl
                have e131 : a.tmps[131]? = some (f 49) := hA 49 (by simp) 131 rfl
                have h38 : (f 38) = .bool true := hF.1
                have h49 : (f 49) = .bool true := hF.2.1
                clear hA hO hF
                go_simp; exact hK _ _ (Below.refl _ _) (by first | trivial | rfl)
              · -- 51: Op.move t132
                intro f a w K hE hA hO hF hK
                have e132 : a.tmps[132]? = some (f 50) := hA 50 (by simp) 132 rfl
                have h50 : (f 50) = .bool true := hF.1
                clear hA hO hF
                go_simp; exact hK _ _ (Below.refl _ _) (by first | trivial | rfl)
              · -- 52: Op.call { value (Operand.func 15), args := #[const (Value.slice none 0 0)], argTypes := #[
                intro f a w K hE hA hO hF hK
                have e133 : a.tmps[133]? = some (f 51) := hA 51 (by simp) 133 rfl
                have h51 : (f 51) = .bool true := hF.1
                clear hA hO hF
                go_simp
                refine (RowsOf.of_any none 0 0 [] _ (At.nil _) (by decide)).mono ?_
                rintro e w2 ⟨A7, n7, c7, rfl, ha7, hb⟩
                have hl7 : 0 = n7 := ha7.len
                subst hl7
                exact ⟨_, rfl, hK _ _ hb ⟨A7, c7, rfl⟩⟩
              · -- 53: Op.call { builtin len, args := #[t134], argTypes := #[23] }
                intro f a w K hE hA hO hF hK
                have e134 : a.tmps[134]? = some (f 52) := hA 52 (by simp) 134 rfl
                have e133 : a.tmps[133]? = some (f 51) := hA 51 (by simp) 133 rfl
                have h52 : ∃ A c, (f 52) = .slice A 0 c := hF.1
                have h51 : (f 51) = .bool true := hF.2.1
                clear hA hO hF
                obtain ⟨A7, c7, h52⟩ := h52
                go_simp
                exact hK _ _ (Below.refl _ _) rfl
              · -- 54: Op.binOp BinOp.eql 3 t135 (const (0:i64)) 3
                intro f a w K hE hA hO hF hK
                have e135 : a.tmps[135]? = some (f 53) := hA 53 (by simp) 135 rfl
                have e133 : a.tmps[133]? = some (f 51) := hA 51 (by simp) 133 rfl
                have h53 : (f 53) = .int .i64 0 := hF.1
                have h51 : (f 51) = .bool true := hF.2.1
                clear hA hO hF
                go_simp; exact hK _ _ (Below.refl _ _) (by first | trivial | rfl)
              · -- 55: Op.pick t133 t136 (const (Value.bool false))
                intro f a w K hE hA hO hF hK
                have e133 : a.tmps[133]? = some (f 51) := hA 51 (by simp) 133 rfl
                have e136 : a.tmps[136]? = some (f 54) := hA 54 (by simp) 136 rfl
                have h51 : (f 51) = .bool true := hF.1
                have h54 : (f 54) = .bool true := hF.2.1
                clear hA hO hF
                go_simp; exact hK _ _ (Below.refl _ _) (by first | trivial | rfl)
              · -- 56: Op.move t137
                intro f a w K hE hA hO hF hK
                have e137 : a.tmps[137]? = some (f 55) := hA 55 (by simp) 137 rfl
                have h55 : (f 55) = .bool true := hF.1
                clear hA hO hF
                go_simp; exact hK _ _ (Below.refl _ _) (by first | trivial | rfl)
              · -- 57: Op.call { value (Operand.func 19), args := #[], argTypes := #[] }
                intro f a w K hE hA hO hF hK
                have e138 : a.tmps[138]? = some (f 56) := hA 56 (by simp) 138 rfl
                have h56 : (f 56) = .bool true := hF.1
                clear hA hO hF
                go_simp
                refine (Awake.awake_any _).mono ?_
                rintro e w2 ⟨rfl, hb⟩
                exact ⟨_, rfl, hK _ _ hb rfl⟩
              · -- 58: Op.pick t138 t139 (const (Value.bool false))
                intro f a w K hE hA hO hF hK
                have e138 : a.tmps[138]? = some (f 56) := hA 56 (by simp) 138 rfl
                have e139 : a.tmps[139]? = some (f 57) := hA 57 (by simp) 139 rfl
                have h56 : (f 56) = .bool true := hF.1
                have h57 : (f 57) = .bool true := hF.2.1
                clear hA hO hF
                go_simp; exact hK _ _ (Below.refl _ _) (by first | trivial | rfl)
              · -- 59: Op.assign t140
                intro f a w K hE hA hO hF hK
                have e140 : a.tmps[140]? = some (f 58) := hA 58 (by simp) 140 rfl
                have h58 : (f 58) = .bool true := hF.1
                clear hA hO hF
                go_simp; exact hK _ _ (Below.refl _ _) (by first | trivial | rfl)
              intro f w1 hE hF
              have g0 : (f 0) = .slice A5 nb c5 := hF.1
              have g1 : ∃ A n c, (f 1) = .slice A n c ∧ At w1 A n c (ofL (tames za)) := hF.2.1
              have g2 : (f 2) = .slice As ns cs := hF.2.2.1
              have g3 : (f 3) = .bool true := hF.2.2.2.1
              have g4 : (f 4) = .bool true := hF.2.2.2.2.1
              have g5 : (f 5) = .slice Al nl cl := hF.2.2.2.2.2.1
              have g6 : (f 6) = .int .i64 kk := hF.2.2.2.2.2.2.1
              have g7 : (f 7) = .slice Al kk cl := hF.2.2.2.2.2.2.2.1
              have g8 : (f 8) = .slice Al nl cl := hF.2.2.2.2.2.2.2.2.1
              have g9 : (f 9) = .int .i64 kk := hF.2.2.2.2.2.2.2.2.2.1
              have g10 : (f 10) = .slice (if cl = kk then Al else Al.map (·.add (kk * 6))) (nl - kk) (cl - kk) := hF.2.2.2.2.2.2.2.2.2.2.1
              have g11 : ∃ A n c, (f 11) = .slice A n c ∧ At w1 A n c (ofL (tames za)) := hF.2.2.2.2.2.2.2.2.2.2.2.1
              have g12 : (f 12) = .slice As ns cs := hF.2.2.2.2.2.2.2.2.2.2.2.2.1
              have g13 : (f 13) = .bool true := hF.2.2.2.2.2.2.2.2.2.2.2.2.2.1
              have g14 : (f 14) = .bool true := hF.2.2.2.2.2.2.2.2.2.2.2.2.2.2.1
              have g15 : (f 15) = .bool true := hF.2.2.2.2.2.2.2.2.2.2.2.2.2.2.2.1
              have g16 : (f 16) = .slice As ns cs := hF.2.2.2.2.2.2.2.2.2.2.2.2.2.2.2.2.1
              have g17 : (f 17) = .bool true := hF.2.2.2.2.2.2.2.2.2.2.2.2.2.2.2.2.2.1
              have g18 : (f 18) = .bool true := hF.2.2.2.2.2.2.2.2.2.2.2.2.2.2.2.2.2.2.1
              have g19 : (f 19) = .bool true := hF.2.2.2.2.2.2.2.2.2.2.2.2.2.2.2.2.2.2.2.1
              have g20 : (f 20) = .slice As ns cs := hF.2.2.2.2.2.2.2.2.2.2.2.2.2.2.2.2.2.2.2.2.1
              have g21 : (f 21) = t.val := hF.2.2.2.2.2.2.2.2.2.2.2.2.2.2.2.2.2.2.2.2.2.1
              have g22 : (f 22) = .bool bin := hF.2.2.2.2.2.2.2.2.2.2.2.2.2.2.2.2.2.2.2.2.2.2.1
              have g23 : (f 23) = .bool bin := hF.2.2.2.2.2.2.2.2.2.2.2.2.2.2.2.2.2.2.2.2.2.2.2.1
              have g24 : (f 24) = .bool true := hF.2.2.2.2.2.2.2.2.2.2.2.2.2.2.2.2.2.2.2.2.2.2.2.2.1
              have g25 : (f 25) = .bool true := hF.2.2.2.2.2.2.2.2.2.2.2.2.2.2.2.2.2.2.2.2.2.2.2.2.2.1
              have g26 : (f 26) = .bool true := hF.2.2.2.2.2.2.2.2.2.2.2.2.2.2.2.2.2.2.2.2.2.2.2.2.2.2.1
              have g27 : (f 27) = .slice Al nl cl := hF.2.2.2.2.2.2.2.2.2.2.2.2.2.2.2.2.2.2.2.2.2.2.2.2.2.2.2.1
              have g28 : (f 28) = .slice Ak nk ck := hF.2.2.2.2.2.2.2.2.2.2.2.2.2.2.2.2.2.2.2.2.2.2.2.2.2.2.2.2.1
              have g29 : ∃ A n c, (f 29) = .slice A n c ∧ At w1 A n c (ofL (tames za ++ tames zb)) := hF.2.2.2.2.2.2.2.2.2.2.2.2.2.2.2.2.2.2.2.2.2.2.2.2.2.2.2.2.2.1
              have g30 : (f 30) = t.val := hF.2.2.2.2.2.2.2.2.2.2.2.2.2.2.2.2.2.2.2.2.2.2.2.2.2.2.2.2.2.2.1
              have g31 : (f 31) = .bool (bin || bb) := hF.2.2.2.2.2.2.2.2.2.2.2.2.2.2.2.2.2.2.2.2.2.2.2.2.2.2.2.2.2.2.2.1
              have g32 : (f 32) = .bool bin := hF.2.2.2.2.2.2.2.2.2.2.2.2.2.2.2.2.2.2.2.2.2.2.2.2.2.2.2.2.2.2.2.2.1
              have g33 : (f 33) = .bool bin := hF.2.2.2.2.2.2.2.2.2.2.2.2.2.2.2.2.2.2.2.2.2.2.2.2.2.2.2.2.2.2.2.2.2.1
              have g34 : bin = false → (f 34) = .bool bb := hF.2.2.2.2.2.2.2.2.2.2.2.2.2.2.2.2.2.2.2.2.2.2.2.2.2.2.2.2.2.2.2.2.2.2.1
              have g35 : (f 35) = .bool (bin || bb) := hF.2.2.2.2.2.2.2.2.2.2.2.2.2.2.2.2.2.2.2.2.2.2.2.2.2.2.2.2.2.2.2.2.2.2.2.1
              have g36 : (f 36) = .bool true := hF.2.2.2.2.2.2.2.2.2.2.2.2.2.2.2.2.2.2.2.2.2.2.2.2.2.2.2.2.2.2.2.2.2.2.2.2.1
              have g37 : (f 37) = .bool true := hF.2.2.2.2.2.2.2.2.2.2.2.2.2.2.2.2.2.2.2.2.2.2.2.2.2.2.2.2.2.2.2.2.2.2.2.2.2.1
              have g38 : (f 38) = .bool true := hF.2.2.2.2.2.2.2.2.2.2.2.2.2.2.2.2.2.2.2.2.2.2.2.2.2.2.2.2.2.2.2.2.2.2.2.2.2.2.1
              have g39 : (f 39) = .slice Al nl cl := hF.2.2.2.2.2.2.2.2.2.2.2.2.2.2.2.2.2.2.2.2.2.2.2.2.2.2.2.2.2.2.2.2.2.2.2.2.2.2.2.1
              have g40 : (f 40) = .slice Ak nk ck := hF.2.2.2.2.2.2.2.2.2.2.2.2.2.2.2.2.2.2.2.2.2.2.2.2.2.2.2.2.2.2.2.2.2.2.2.2.2.2.2.2.1
              have g41 : ∃ A n c, (f 41) = .slice A n c ∧ At w1 A n c (minus (tames za) (tames zb)) := hF.2.2.2.2.2.2.2.2.2.2.2.2.2.2.2.2.2.2.2.2.2.2.2.2.2.2.2.2.2.2.2.2.2.2.2.2.2.2.2.2.2.1
              have g42 : (f 42) = t.val := hF.2.2.2.2.2.2.2.2.2.2.2.2.2.2.2.2.2.2.2.2.2.2.2.2.2.2.2.2.2.2.2.2.2.2.2.2.2.2.2.2.2.2.1
              have g43 : (f 43) = .bool (bin && !bb) := hF.2.2.2.2.2.2.2.2.2.2.2.2.2.2.2.2.2.2.2.2.2.2.2.2.2.2.2.2.2.2.2.2.2.2.2.2.2.2.2.2.2.2.2.1
              have g44 : (f 44) = .bool bin := hF.2.2.2.2.2.2.2.2.2.2.2.2.2.2.2.2.2.2.2.2.2.2.2.2.2.2.2.2.2.2.2.2.2.2.2.2.2.2.2.2.2.2.2.2.1
              have g45 : (f 45) = .bool bin := hF.2.2.2.2.2.2.2.2.2.2.2.2.2.2.2.2.2.2.2.2.2.2.2.2.2.2.2.2.2.2.2.2.2.2.2.2.2.2.2.2.2.2.2.2.2.1
              have g46 : bin = true → (f 46) = .bool bb := hF.2.2.2.2.2.2.2.2.2.2.2.2.2.2.2.2.2.2.2.2.2.2.2.2.2.2.2.2.2.2.2.2.2.2.2.2.2.2.2.2.2.2.2.2.2.2.1
              have g47 : bin = true → (f 47) = .bool (!bb) := hF.2.2.2.2.2.2.2.2.2.2.2.2.2.2.2.2.2.2.2.2.2.2.2.2.2.2.2.2.2.2.2.2.2.2.2.2.2.2.2.2.2.2.2.2.2.2.2.1
              have g48 : (f 48) = .bool (bin && !bb) := hF.2.2.2.2.2.2.2.2.2.2.2.2.2.2.2.2.2.2.2.2.2.2.2.2.2.2.2.2.2.2.2.2.2.2.2.2.2.2.2.2.2.2.2.2.2.2.2.2.1
              have g49 : (f 49) = .bool true := hF.2.2.2.2.2.2.2.2.2.2.2.2.2.2.2.2.2.2.2.2.2.2.2.2.2.2.2.2.2.2.2.2.2.2.2.2.2.2.2.2.2.2.2.2.2.2.2.2.2.1
              have g50 : (f 50) = .bool true := hF.2.2.2.2.2.2.2.2.2.2.2.2.2.2.2.2.2.2.2.2.2.2.2.2.2.2.2.2.2.2.2.2.2.2.2.2.2.2.2.2.2.2.2.2.2.2.2.2.2.2.1
              have g51 : (f 51) = .bool true := hF.2.2.2.2.2.2.2.2.2.2.2.2.2.2.2.2.2.2.2.2.2.2.2.2.2.2.2.2.2.2.2.2.2.2.2.2.2.2.2.2.2.2.2.2.2.2.2.2.2.2.2.1
              have g52 : ∃ A c, (f 52) = .slice A 0 c := hF.2.2.2.2.2.2.2.2.2.2.2.2.2.2.2.2.2.2.2.2.2.2.2.2.2.2.2.2.2.2.2.2.2.2.2.2.2.2.2.2.2.2.2.2.2.2.2.2.2.2.2.2.1
              have g53 : (f 53) = .int .i64 0 := hF.2.2.2.2.2.2.2.2.2.2.2.2.2.2.2.2.2.2.2.2.2.2.2.2.2.2.2.2.2.2.2.2.2.2.2.2.2.2.2.2.2.2.2.2.2.2.2.2.2.2.2.2.2.1
              have g54 : (f 54) = .bool true := hF.2.2.2.2.2.2.2.2.2.2.2.2.2.2.2.2.2.2.2.2.2.2.2.2.2.2.2.2.2.2.2.2.2.2.2.2.2.2.2.2.2.2.2.2.2.2.2.2.2.2.2.2.2.2.1
              have g55 : (f 55) = .bool true := hF.2.2.2.2.2.2.2.2.2.2.2.2.2.2.2.2.2.2.2.2.2.2.2.2.2.2.2.2.2.2.2.2.2.2.2.2.2.2.2.2.2.2.2.2.2.2.2.2.2.2.2.2.2.2.2.1
              have g56 : (f 56) = .bool true := hF.2.2.2.2.2.2.2.2.2.2.2.2.2.2.2.2.2.2.2.2.2.2.2.2.2.2.2.2.2.2.2.2.2.2.2.2.2.2.2.2.2.2.2.2.2.2.2.2.2.2.2.2.2.2.2.2.1
              have g57 : (f 57) = .bool true := hF.2.2.2.2.2.2.2.2.2.2.2.2.2.2.2.2.2.2.2.2.2.2.2.2.2.2.2.2.2.2.2.2.2.2.2.2.2.2.2.2.2.2.2.2.2.2.2.2.2.2.2.2.2.2.2.2.2.1
              have g58 : (f 58) = .bool true := hF.2.2.2.2.2.2.2.2.2.2.2.2.2.2.2.2.2.2.2.2.2.2.2.2.2.2.2.2.2.2.2.2.2.2.2.2.2.2.2.2.2.2.2.2.2.2.2.2.2.2.2.2.2.2.2.2.2.2.1
              have g59 : (f 59) = .bool true := hF.2.2.2.2.2.2.2.2.2.2.2.2.2.2.2.2.2.2.2.2.2.2.2.2.2.2.2.2.2.2.2.2.2.2.2.2.2.2.2.2.2.2.2.2.2.2.2.2.2.2.2.2.2.2.2.2.2.2.2.1
              simp only [laws18D, Fr.puts, Act.put, List.setIfInBounds_toArray, List.set_cons_zero, List.set_cons_succ]
              clear hF
              simp only [laws18S, List.length_cons, List.length_nil, Nat.reduceAdd, List.drop_succ_cons, List.drop_nil]
              rw [g59]
              clear g0 g1 g2 g3 g4 g5 g6 g7 g8 g9 g10 g11 g12 g13 g14 g15 g16 g17 g18 g19 g20 g21 g22 g23 g24 g25 g26 g27 g28 g29 g30 g31 g32 g33 g34 g35 g36 g37 g38 g39 g40 g41 g42 g43 g44 g45 g46 g47 g48 g49 g50 g51 g52 g53 g54 g55 g56 g57 g58 g59
              have hw9 : Below w.heap.size w w1 := hw8.trans (hE.mono hw8.size)
              clear hE
              go_wp2
              go_ret
              exact ⟨rfl, hw9⟩
    | succ i =>
      have hs : z2 = (i : Int) := by omega
      subst hs
      clear hz14
      have hlt : i < nl := by omega
      obtain ⟨b, o, rfl, hbx, hcx⟩ := Same.get_at Hl.out hlt
      have HBX := Lib.hid hbx
      have HXC := Lib.hid hcx
      generalize hx : (tames za)[i]! = x at *
      have HXE := Lib.hid (mem_back (by rw [Hl.out.len]; exact hlt) hx HY.out)
      clear hx hbx hcx
      have s1 : (0 : Int) ≤ i := by omega
      have s2 : (i : Int) < nl := by omega
      have s3 : IntKind.i64.wrap ((i : Int) - 1) = (i : Int) - 1 := IntWalk.i64_in _ (by omega)
      go_wp2_with fail
      refine Fr.wp_region_free (by kernel_rfl) (laws7S b o nl cl i A5 nb c5 x) laws7D (by kernel_rfl) (by kernel_rfl) (laws7St _ _ _ _ _ _ _ _ _) ?_ ?_
      refine ⟨?_, ?_, ?_, ?_, ?_, ?_, ?_, ?_, ?_, ?_, trivial⟩
      · -- 0: Op.move t13
        intro f a w K hE hA hO hF hK
        have o13 : a.tmps[13]? = some (.slice A5 nb c5) := (hO 13 (by simp)).trans rfl
        clear hA hO hF
        go_simp; exact hK _ _ (Below.refl _ _) (by first | trivial | rfl)
      · -- 1: Op.move t9
        intro f a w K hE hA hO hF hK
        have o9 : a.tmps[9]? = some (.slice (some ⟨b, o, none⟩) nl cl) := (hO 9 (by simp)).trans rfl
        clear hA hO hF
        go_simp; exact hK _ _ (Below.refl _ _) (by first | trivial | rfl)
      · -- 2: Op.move t14
        intro f a w K hE hA hO hF hK
        have o14 : a.tmps[14]? = some (.int .i64 i) := (hO 14 (by simp)).trans rfl
        clear hA hO hF
        go_simp; exact hK _ _ (Below.refl _ _) (by first | trivial | rfl)
      · -- 3: Op.indexAddr 23 t40 t41
        intro f a w K hE hA hO hF hK
        have e40 : a.tmps[40]? = some (f 1) := hA 1 (by simp) 40 rfl
        have e41 : a.tmps[41]? = some (f 2) := hA 2 (by simp) 41 rfl
        have h1 : (f 1) = .slice (some ⟨b, o, none⟩) nl cl := hF.1
        have h2 : (f 2) = .int .i64 i := hF.2.1
        clear hA hO hF
        go_simp; exact hK _ _ (Below.refl _ _) (by first | trivial | rfl)
      · -- 4: Op.load 41 t42
        intro f a w K hE hA hO hF hK
        have e42 : a.tmps[42]? = some (f 3) := hA 3 (by simp) 42 rfl
        have h3 : (f 3) = .pointer (some ⟨b, o + i * 6, none⟩) := hF.1
        clear hA hO hF
        obtain ⟨q0, q1, q2, q3, q4, q5⟩ := (HXC.out.keep fun ii => (hbel.trans (hE.mono hbel.size)).cell (p := ⟨b, ii, none⟩) HBX.out).cells
        go_simp
        exact hK _ _ (Below.refl _ _) rfl
      · -- 5: Op.move t9
        intro f a w K hE hA hO hF hK
        have o9 : a.tmps[9]? = some (.slice (some ⟨b, o, none⟩) nl cl) := (hO 9 (by simp)).trans rfl
        clear hA hO hF
        go_simp; exact hK _ _ (Below.refl _ _) (by first | trivial | rfl)
      · -- 6: Op.move t14
        intro f a w K hE hA hO hF hK
        have o14 : a.tmps[14]? = some (.int .i64 i) := (hO 14 (by simp)).trans rfl
        clear hA hO hF
        go_simp; exact hK _ _ (Below.refl _ _) (by first | trivial | rfl)
      · -- 7: Op.indexAddr 23 t44 t45
        intro f a w K hE hA hO hF hK
        have e44 : a.tmps[44]? = some (f 5) := hA 5 (by simp) 44 rfl
        have e45 : a.tmps[45]? = some (f 6) := hA 6 (by simp) 45 rfl
        have h5 : (f 5) = .slice (some ⟨b, o, none⟩) nl cl := hF.1
        have h6 : (f 6) = .int .i64 i := hF.2.1
        clear hA hO hF
        go_simp; exact hK _ _ (Below.refl _ _) (by first | trivial | rfl)
      · -- 8: Op.load 41 t46
        intro f a w K hE hA hO hF hK
        have e46 : a.tmps[46]? = some (f 7) := hA 7 (by simp) 46 rfl
        have h7 : (f 7) = .pointer (some ⟨b, o + i * 6, none⟩) := hF.1
        clear hA hO hF
        obtain ⟨q0, q1, q2, q3, q4, q5⟩ := (HXC.out.keep fun ii => (hbel.trans (hE.mono hbel.size)).cell (p := ⟨b, ii, none⟩) HBX.out).cells
        go_simp
        exact hK _ _ (Below.refl _ _) rfl
      · -- 9: Op.buildSlice 23 2 #[(0, t43), (1, t47)]
        intro f a w K hE hA hO hF hK
        have e43 : a.tmps[43]? = some (f 4) := hA 4 (by simp) 43 rfl
        have e47 : a.tmps[47]? = some (f 8) := hA 8 (by simp) 47 rfl
        have h4 : (f 4) = x.val := hF.1
        have h8 : (f 8) = x.val := hF.2.1
        clear hA hO hF
        rw [Tp.val] at h4 h8
        go_simp
        exact hK _ _ ((Below.refl _ _).alloc (Nat.le_refl _) _) ⟨w.heap.size, rfl, Mm.Bk.new w _ (flat [x, x])⟩
      intro f w1 hE hF
      have g0 : (f 0) = .slice A5 nb c5 := hF.1
      have g1 : (f 1) = .slice (some ⟨b, o, none⟩) nl cl := hF.2.1
      have g2 : (f 2) = .int .i64 i := hF.2.2.1
      have g3 : (f 3) = .pointer (some ⟨b, o + i * 6, none⟩) := hF.2.2.2.1
      have g4 : (f 4) = x.val := hF.2.2.2.2.1
      have g5 : (f 5) = .slice (some ⟨b, o, none⟩) nl cl := hF.2.2.2.2.2.1
      have g6 : (f 6) = .int .i64 i := hF.2.2.2.2.2.2.1
      have g7 : (f 7) = .pointer (some ⟨b, o + i * 6, none⟩) := hF.2.2.2.2.2.2.2.1
      have g8 : (f 8) = x.val := hF.2.2.2.2.2.2.2.2.1
      have g9 : ∃ g, (f 9) = .slice (some ⟨g, 0, none⟩) 2 2 ∧ Mm.Bk w1 g 41 (flat [x, x]) := hF.2.2.2.2.2.2.2.2.2.1
      simp only [laws7D, Fr.puts, Act.put, List.setIfInBounds_toArray, List.set_cons_zero, List.set_cons_succ]
      clear hF
      simp only [laws7S, List.length_cons, List.length_nil, Nat.reduceAdd, List.drop_succ_cons, List.drop_zero]
      obtain ⟨g, hv, hbk⟩ := g9
      rw [g0, hv]
      clear g0 g1 g2 g3 g4 g5 g6 g7 g8 hv
      have HOWN0 := Lib.hid (Own.ext_own HO.out hE)
      have hbw0 : Below w4.heap.size w4 w1 := hbel.trans (hE.mono hbel.size)
      have HBK := Lib.hid hbk
      clear hbk hE
      go_wp2_with (at_builtin; refine wpList_append_own _ rfl _ _ 23 rfl w4.heap.size 41 i0 _ 6 96 Try.underlying23 hi0 hz0 hz1 hz2 rfl (by decide) _ _ _ rfl HOWN0.out ⟨g, 0, none⟩ 2 2 (flat [x, x]) rfl rfl ?qc2 (flat_one _) ?qc4 ?qc5 ?qc6 ?_)
      case qc2 => exact fun j u hj => Mm.Bk.reads HBK.out j u hj
      case qc4 => simp only [maxLen]; omega
      case qc5 => omega
      case qc6 => exact hbw0.size
      intro v' w5 hown5 hgrow5 _
      have hb5 : Below w4.heap.size w4 w5 := hbw0.grown hgrow5 hbw0.size (by
        intro q hq
        rcases HOWN0.out.2 with ⟨hv, _⟩ | ⟨g, cap, cur, hv, hg, _⟩
        · rw [hv] at hq
          simp [Value.ownBlock] at hq
        · rw [hv] at hq
          simp [Value.ownBlock] at hq
          omega)
      obtain ⟨A6, c6, hv6⟩ := Own.slice_of hown5
      rw [← flat_append] at hown5
      have HV6 := Lib.hid hv6
      have HOWN5 := Lib.hid hown5
      clear hv6 hown5 hgrow5
      go_wp2
      go_roundg i
      case measure => omega
      case rel => exact ⟨i, nb + 2, (i : Int) - 1, A6, c6, ys ++ [x, x], by omega, Nat.le_refl _, by go_num, rfl, HV6.out, Lib.hid (by have h1 := HOWN5.out; rw [HV6.out] at h1; exact h1), by omega, HXE, hb5⟩
end Lws
end Go.Proofs.Ytdckfddlcmkdlaa
