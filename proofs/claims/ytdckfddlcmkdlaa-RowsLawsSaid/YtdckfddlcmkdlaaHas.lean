/-
  rows.Has: is a tuple in a set? By halves.
-/
import Derived.Test.YtdckfddlcmkdlaaIs
namespace Go.Proofs.Ytdckfddlcmkdlaa
open Go.RowKit
namespace Has
open Cmp TO Rd

/-- All ahead of i are below t, none from j on is. -/
def Part (xs : List Tp) (t : Tp) (i j : Nat) : Prop := (∀ l, l < i → ltB xs[l]! t = true) ∧ (∀ l, j ≤ l → l < xs.length → ltB xs[l]! t = false)
theorem Part.up {xs : List Tp} {t : Tp} {i j h : Nat} (hr : Rises xs) (p : Part xs t i j) (hh : h < xs.length) (hlt : ltB xs[h]! t = true) : Part xs t (h + 1) j := by
  refine ⟨fun l hl => ?_, p.2⟩
  by_cases e : l = h
  · subst e; exact hlt
  · exact lt_trans (Wout.rises_get hr (show l < h by omega) hh) hlt
theorem Part.down {xs : List Tp} {t : Tp} {i j h : Nat} (hr : Rises xs) (p : Part xs t i j) (hlt : ltB xs[h]! t = false) : Part xs t i h := by
  refine ⟨p.1, fun l hl hl2 => ?_⟩
  by_cases e : l = h
  · subst e; exact hlt
  · cases h2 : ltB xs[l]! t with
    | false => rfl
    | true =>
      have := lt_trans (Wout.rises_get hr (show h < l by omega) hl2) h2
      rw [hlt] at this
      cases this
theorem Part.mem {xs : List Tp} {t : Tp} {i : Nat} (hr : Rises xs) (p : Part xs t i i) : t ∈ xs ↔ i < xs.length ∧ xs[i]! = t := by
  constructor
  · intro hm
    obtain ⟨l, hl, e⟩ := List.mem_iff_getElem.1 hm
    have e' : xs[l]! = t := by rw [getElem!_pos _ l hl]; exact e
    have h1 : ¬ l < i := fun h => by
      have := p.1 l h
      rw [e', lt_irrefl] at this
      cases this
    refine ⟨by omega, ?_⟩
    by_cases e2 : l = i
    · subst e2; exact e'
    · have h2 := Wout.rises_get hr (show i < l by omega) hl
      rw [e', p.2 i (Nat.le_refl _) (by omega)] at h2
      cases h2
  · rintro ⟨hl, e⟩
    rw [← e, getElem!_pos _ i hl]
    exact List.getElem_mem hl

def bs5S (b o n c h : Nat) (x t : Tp) : List Fr.Sp := [
  ⟨[], [2], fun _ v _ => v = .func (.func 57) #[] #[]⟩,
  ⟨[], [0], fun _ v _ => v = .slice (some ⟨b, o, none⟩) n c⟩,
  ⟨[], [11], fun _ v _ => v = .int .i64 h⟩,
  ⟨[1, 2], [], fun _ v _ => v = .pointer (some ⟨b, o + h * 6, none⟩)⟩,
  ⟨[3], [], fun _ v _ => v = x.val⟩,
  ⟨[], [4], fun _ v _ => v = t.val⟩,
  ⟨[0, 4, 5], [], fun _ v _ => v = .int .i64 (cf x t)⟩,
  ⟨[6], [], fun _ v _ => v = .bool (ltB x t)⟩]
def bs5D : List (Option Nat) := [some 24, some 25, some 26, some 27, some 28, some 29, some 30, some 31]
theorem bs5St (b o n c h : Nat) (x t : Tp) : Fr.Stables (bs5S b o n c h x t) :=
  ⟨fun _ _ _ _ _ h => h, fun _ _ _ _ _ h => h, fun _ _ _ _ _ h => h, fun _ _ _ _ _ h => h, fun _ _ _ _ _ h => h, fun _ _ _ _ _ h => h, fun _ _ _ _ _ h => h, fun _ _ _ _ _ h => h, trivial⟩
def bs8S (b o n c i : Nat) (x t : Tp) : List Fr.Sp := [
  ⟨[], [9], fun _ v _ => v = .int .i64 i⟩,
  ⟨[], [9], fun _ v _ => v = .int .i64 i⟩,
  ⟨[], [8], fun _ v _ => v = .int .i64 n⟩,
  ⟨[1, 2], [], fun _ v _ => v = .bool true⟩,
  ⟨[3], [], fun _ v _ => v = .bool true⟩,
  ⟨[4], [2], fun _ v _ => v = .func (.func 57) #[] #[]⟩,
  ⟨[4], [0], fun _ v _ => v = .slice (some ⟨b, o, none⟩) n c⟩,
  ⟨[4], [9], fun _ v _ => v = .int .i64 i⟩,
  ⟨[6, 7, 4], [], fun _ v _ => v = .pointer (some ⟨b, o + i * 6, none⟩)⟩,
  ⟨[8, 4], [], fun _ v _ => v = x.val⟩,
  ⟨[4], [4], fun _ v _ => v = t.val⟩,
  ⟨[5, 9, 10, 4], [], fun _ v _ => v = .int .i64 (cf x t)⟩,
  ⟨[11, 4], [], fun _ v _ => v = .bool (cf x t == 0)⟩,
  ⟨[4, 12], [], fun _ v _ => v = .bool (cf x t == 0)⟩,
  ⟨[0], [], fun _ v _ => v = .int .i64 i⟩,
  ⟨[13], [], fun _ v _ => v = .bool (cf x t == 0)⟩]
def bs8D : List (Option Nat) := [some 35, some 36, some 37, some 38, some 39, some 40, some 41, some 42, some 43, some 44, some 45, some 46, some 47, some 48, some 6, some 7]
theorem bs8St (b o n c i : Nat) (x t : Tp) : Fr.Stables (bs8S b o n c i x t) :=
  ⟨fun _ _ _ _ _ h => h, fun _ _ _ _ _ h => h, fun _ _ _ _ _ h => h, fun _ _ _ _ _ h => h, fun _ _ _ _ _ h => h, fun _ _ _ _ _ h => h, fun _ _ _ _ _ h => h, fun _ _ _ _ _ h => h, fun _ _ _ _ _ h => h, fun _ _ _ _ _ h => h, fun _ _ _ _ _ h => h, fun _ _ _ _ _ h => h, fun _ _ _ _ _ h => h, fun _ _ _ _ _ h => h, fun _ _ _ _ _ h => h, fun _ _ _ _ _ h => h, trivial⟩

set_option maxRecDepth 100000 in
set_option maxHeartbeats 4000000 in
theorem search_any (A : Option Addr) (n c : Nat) (xs : List Tp) (t : Tp) (w : World) (hx : At w A n c xs) (hr : Rises xs) (hn : n ≤ 1000000000) :
    Calls Try.prog 61 #[.slice A n c, t.val, .func (.func 57) #[] #[]] w fun e w' => (∃ i : Nat, e = .returned (.tuple #[.int .i64 i, .bool (decide (t ∈ xs))])) ∧ Below w.heap.size w w' := by
  have HX := Lib.hid hx
  have HL := Lib.hid hx.len
  have HR := Lib.hid hr
  have htv : t.val = .agg t.enc.toArray := rfl
  clear hx hr htv
  rw [Tp.val]
  go_enter Try.func61, Try.ntmps61
  go_wp2
  have HTB0 := Lib.hid (Mm.Bk.new w 41 t.enc)
  go_loopg [9, 10, 11] n (fun gh s9 s10 _s11 wr => ∃ i j : Nat, i ≤ j ∧ j ≤ n ∧ j - i ≤ gh ∧ s9 = .int .i64 i ∧ s10 = .int .i64 j ∧ Below (w.heap.size + 1) (w.alloc (.cells t.enc.toArray 41)) wr ∧ Hid (Part xs t i j))
  case atStart => exact ⟨0, n, by omega, by omega, by omega, rfl, rfl, Below.refl _ _, Lib.hid ⟨fun l hl => by omega, fun l h1 h2 => by rw [HL.out] at h2; omega⟩⟩
  case round =>
    obtain ⟨i, j, hij, hjn, hg, rfl, rfl, hbi, HP⟩ := hrel
    have hbk := HTB0.out.below hbi (by omega)
    have HTB := Lib.hid hbk
    have hb4 := hbk.lt
    have hbel : Below w.heap.size w wr := ((Below.refl _ w).alloc (Nat.le_refl _) _).trans (hbi.mono (by omega))
    have hsz := hbi.size
    rw [World.size_alloc] at hsz
    clear hbk
    by_cases hlt : i < j
    · obtain ⟨h, hh⟩ : ∃ h : Nat, ((i : Int) + (j : Int)) / 2 = (h : Int) := ⟨(i + j) / 2, by omega⟩
      have hhi : i ≤ h := by omega
      have hhj : h < j := by omega
      have HH := Lib.hid hh
      clear hh
      obtain ⟨b, o, rfl, hbx, hcx⟩ := Same.get_at HX.out (show h < n by omega)
      have HXC := Lib.hid (hcx.keep fun i => hbel.cell (p := ⟨b, i, none⟩) hbx)
      have hbl : b < wr.heap.size := by omega
      clear hcx
      generalize hxe : xs[h]! = x at *
      have HXE := Lib.hid hxe
      clear hxe
      go_wp2_with fail
      rw [HH.out]
      have s1 : (h : Int) < n := by omega
      have s2 : (0 : Int) ≤ h := by omega
      have s3 : h < n := by omega
      refine Fr.wp_region_free (by kernel_rfl) (bs5S b o n c h x t) bs5D (by kernel_rfl) (by kernel_rfl) (bs5St _ _ _ _ _ _ _) ?_ ?_
      refine ⟨?_, ?_, ?_, ?_, ?_, ?_, ?_, ?_, trivial⟩
      · -- 0: Op.move t2
        intro f a w K hE hA hO hF hK
        have o2 : a.tmps[2]? = some (_) := (hO 2 (by simp)).trans rfl
        clear hA hO hF
        go_simp; exact hK _ _ (Below.refl _ _) (by first | trivial | rfl)
      · -- 1: Op.move t0
        intro f a w K hE hA hO hF hK
        have o0 : a.tmps[0]? = some (_) := (hO 0 (by simp)).trans rfl
        clear hA hO hF
        go_simp; exact hK _ _ (Below.refl _ _) (by first | trivial | rfl)
      · -- 2: Op.move t11
        intro f a w K hE hA hO hF hK
        have o11 : a.tmps[11]? = some (_) := (hO 11 (by simp)).trans rfl
        clear hA hO hF
        go_simp; exact hK _ _ (Below.refl _ _) (by first | trivial | rfl)
      · -- 3: Op.indexAddr 23 t25 t26
        intro f a w K hE hA hO hF hK
        have e25 : a.tmps[25]? = some (f 1) := hA 1 (by simp) 25 rfl
        have e26 : a.tmps[26]? = some (f 2) := hA 2 (by simp) 26 rfl
        have h1 : (f 1) = .slice (some ⟨b, o, none⟩) n c := hF.1
        have h2 : (f 2) = .int .i64 h := hF.2.1
        clear hA hO hF
        go_simp; exact hK _ _ (Below.refl _ _) (by first | trivial | rfl)
      · -- 4: Op.load 41 t27
        intro f a w K hE hA hO hF hK
        have e27 : a.tmps[27]? = some (f 3) := hA 3 (by simp) 27 rfl
        have h3 : (f 3) = .pointer (some ⟨b, o + h * 6, none⟩) := hF.1
        clear hA hO hF
        obtain ⟨q0, q1, q2, q3, q4, q5⟩ := (HXC.out.keep fun i => hE.cell (p := ⟨b, i, none⟩) hbl).cells
        go_simp
        exact hK _ _ (Below.refl _ _) rfl
      · -- 5: Op.load 41 t4
        intro f a w K hE hA hO hF hK
        have o4 : a.tmps[4]? = some (_) := (hO 4 (by simp)).trans rfl
        clear hA hO hF
        obtain ⟨q0, q1, q2, q3, q4, q5⟩ := Tp.cells (HTB.out.below hE hb4)
        go_simp
        exact hK _ _ (Below.refl _ _) rfl
      · -- 6: Op.call { value t24, args := #[t28, t29], argTypes := #[41, 41] }
        intro f a w K hE hA hO hF hK
        have e24 : a.tmps[24]? = some (f 0) := hA 0 (by simp) 24 rfl
        have e28 : a.tmps[28]? = some (f 4) := hA 4 (by simp) 28 rfl
        have e29 : a.tmps[29]? = some (f 5) := hA 5 (by simp) 29 rfl
        have h0 : (f 0) = .func (.func 57) #[] #[] := hF.1
        have h4 : (f 4) = x.val := hF.2.1
        have h5 : (f 5) = t.val := hF.2.2.1
        clear hA hO hF
        rw [Tp.val] at h4 h5
        go_simp
        refine (compare_below x t _).mono ?_
        rintro e w2 ⟨rfl, hb⟩
        exact ⟨_, rfl, hK _ _ hb rfl⟩
      · -- 7: Op.binOp BinOp.lss 3 t30 (const (0:i64)) 3
        intro f a w K hE hA hO hF hK
        have e30 : a.tmps[30]? = some (f 6) := hA 6 (by simp) 30 rfl
        have h6 : (f 6) = .int .i64 (cf x t) := hF.1
        clear hA hO hF
        go_simp; exact hK _ _ (Below.refl _ _) (by first | trivial | rfl)
      intro f w1 hE hF
      have g0 : (f 0) = .func (.func 57) #[] #[] := hF.1
      have g1 : (f 1) = .slice (some ⟨b, o, none⟩) n c := hF.2.1
      have g2 : (f 2) = .int .i64 h := hF.2.2.1
      have g3 : (f 3) = .pointer (some ⟨b, o + h * 6, none⟩) := hF.2.2.2.1
      have g4 : (f 4) = x.val := hF.2.2.2.2.1
      have g5 : (f 5) = t.val := hF.2.2.2.2.2.1
      have g6 : (f 6) = .int .i64 (cf x t) := hF.2.2.2.2.2.2.1
      have g7 : (f 7) = .bool (ltB x t) := hF.2.2.2.2.2.2.2.1
      simp only [bs5D, Fr.puts, Act.put, List.setIfInBounds_toArray, List.set_cons_zero, List.set_cons_succ]
      clear hF
      simp only [bs5S, List.length_cons, List.length_nil, Nat.reduceAdd, List.drop_succ_cons, List.drop_nil]
      rw [g7]
      clear g0 g1 g2 g3 g4 g5 g6 g7
      have hb1 : Below (w.heap.size + 1) (w.alloc (.cells t.enc.toArray 41)) w1 := hbi.trans (hE.mono (by omega))
      clear hE
      cases hcmp : ltB x t with
      | true =>
        have HCM := Lib.hid hcmp
        clear hcmp
        go_wp2
        go_roundg (j - (h + 1))
        case measure => omega
        case rel => exact ⟨h + 1, j, by omega, by omega, Nat.le_refl _, by go_num, rfl, hb1, Lib.hid (HP.out.up HR.out (by rw [HL.out]; omega) (by rw [HXE.out]; exact HCM.out))⟩
      | false =>
        have HCM := Lib.hid hcmp
        clear hcmp
        go_wp2
        go_roundg (h - i)
        case measure => omega
        case rel => exact ⟨i, h, by omega, by omega, Nat.le_refl _, rfl, rfl, hb1, Lib.hid (HP.out.down HR.out (by rw [HXE.out]; exact HCM.out))⟩
    · obtain rfl : i = j := by omega
      have hmem := HP.out.mem HR.out
      rw [HL.out] at hmem
      by_cases hin : i < n
      · obtain ⟨b, o, rfl, hbx, hcx⟩ := Same.get_at HX.out hin
        have HXC := Lib.hid (hcx.keep fun i => hbel.cell (p := ⟨b, i, none⟩) hbx)
        have hbl : b < wr.heap.size := by omega
        clear hcx
        generalize hxe : xs[i]! = x at *
        have hres : (cf x t == 0) = decide (t ∈ xs) := by
          rw [Bool.eq_iff_iff, decide_eq_true_iff, hmem, beq_iff_eq, cf_zero]
          exact ⟨fun e => ⟨hin, e⟩, fun e => e.2⟩
        have HRS := Lib.hid hres
        have HXE := Lib.hid hxe
        clear hxe hres hmem
        have s1 : (i : Int) < n := by omega
        go_wp2_with fail
        refine Fr.wp_region_free (by kernel_rfl) (bs8S b o n c i x t) bs8D (by kernel_rfl) (by kernel_rfl) (bs8St _ _ _ _ _ _ _) ?_ ?_
        refine ⟨?_, ?_, ?_, ?_, ?_, ?_, ?_, ?_, ?_, ?_, ?_, ?_, ?_, ?_, ?_, ?_, trivial⟩
        · -- 0: Op.move t9
          intro f a w K hE hA hO hF hK
          have o9 : a.tmps[9]? = some (_) := (hO 9 (by simp)).trans rfl
          clear hA hO hF
          go_simp; exact hK _ _ (Below.refl _ _) (by first | trivial | rfl)
        · -- 1: Op.move t9
          intro f a w K hE hA hO hF hK
          have o9 : a.tmps[9]? = some (_) := (hO 9 (by simp)).trans rfl
          clear hA hO hF
          go_simp; exact hK _ _ (Below.refl _ _) (by first | trivial | rfl)
        · -- 2: Op.move t8
          intro f a w K hE hA hO hF hK
          have o8 : a.tmps[8]? = some (_) := (hO 8 (by simp)).trans rfl
          clear hA hO hF
          go_simp; exact hK _ _ (Below.refl _ _) (by first | trivial | rfl)
        · -- 3: Op.binOp BinOp.lss 3 t36 t37 3
          intro f a w K hE hA hO hF hK
          have e36 : a.tmps[36]? = some (f 1) := hA 1 (by simp) 36 rfl
          have e37 : a.tmps[37]? = some (f 2) := hA 2 (by simp) 37 rfl
          have h1 : (f 1) = .int .i64 i := hF.1
          have h2 : (f 2) = .int .i64 n := hF.2.1
          clear hA hO hF
          go_simp; exact hK _ _ (Below.refl _ _) (by first | trivial | rfl)
        · -- 4: Op.move t38
          intro f a w K hE hA hO hF hK
          have e38 : a.tmps[38]? = some (f 3) := hA 3 (by simp) 38 rfl
          have h3 : (f 3) = .bool true := hF.1
          clear hA hO hF
          go_simp; exact hK _ _ (Below.refl _ _) (by first | trivial | rfl)
        · -- 5: Op.move t2
          intro f a w K hE hA hO hF hK
          have e39 : a.tmps[39]? = some (f 4) := hA 4 (by simp) 39 rfl
          have o2 : a.tmps[2]? = some (_) := (hO 2 (by simp)).trans rfl
          have h4 : (f 4) = .bool true := hF.1
          clear hA hO hF
          go_simp; exact hK _ _ (Below.refl _ _) (by first | trivial | rfl)
        · -- 6: Op.move t0
          intro f a w K hE hA hO hF hK
          have e39 : a.tmps[39]? = some (f 4) := hA 4 (by simp) 39 rfl
          have o0 : a.tmps[0]? = some (_) := (hO 0 (by simp)).trans rfl
          have h4 : (f 4) = .bool true := hF.1
          clear hA hO hF
          go_simp; exact hK _ _ (Below.refl _ _) (by first | trivial | rfl)
        · -- 7: Op.move t9
          intro f a w K hE hA hO hF hK
          have e39 : a.tmps[39]? = some (f 4) := hA 4 (by simp) 39 rfl
          have o9 : a.tmps[9]? = some (_) := (hO 9 (by simp)).trans rfl
          have h4 : (f 4) = .bool true := hF.1
          clear hA hO hF
          go_simp; exact hK _ _ (Below.refl _ _) (by first | trivial | rfl)
        · -- 8: Op.indexAddr 23 t41 t42
          intro f a w K hE hA hO hF hK
          have e41 : a.tmps[41]? = some (f 6) := hA 6 (by simp) 41 rfl
          have e42 : a.tmps[42]? = some (f 7) := hA 7 (by simp) 42 rfl
          have e39 : a.tmps[39]? = some (f 4) := hA 4 (by simp) 39 rfl
          have h6 : (f 6) = .slice (some ⟨b, o, none⟩) n c := hF.1
          have h7 : (f 7) = .int .i64 i := hF.2.1
          have h4 : (f 4) = .bool true := hF.2.2.1
          clear hA hO hF
          go_simp; exact hK _ _ (Below.refl _ _) (by first | trivial | rfl)
        · -- 9: Op.load 41 t43
          intro f a w K hE hA hO hF hK
          have e43 : a.tmps[43]? = some (f 8) := hA 8 (by simp) 43 rfl
          have e39 : a.tmps[39]? = some (f 4) := hA 4 (by simp) 39 rfl
          have h8 : (f 8) = .pointer (some ⟨b, o + i * 6, none⟩) := hF.1
          have h4 : (f 4) = .bool true := hF.2.1
          clear hA hO hF
          obtain ⟨q0, q1, q2, q3, q4, q5⟩ := (HXC.out.keep fun i => hE.cell (p := ⟨b, i, none⟩) hbl).cells
          go_simp
          exact hK _ _ (Below.refl _ _) rfl
        · -- 10: Op.load 41 t4
          intro f a w K hE hA hO hF hK
          have e39 : a.tmps[39]? = some (f 4) := hA 4 (by simp) 39 rfl
          have o4 : a.tmps[4]? = some (_) := (hO 4 (by simp)).trans rfl
          have h4 : (f 4) = .bool true := hF.1
          clear hA hO hF
          obtain ⟨q0, q1, q2, q3, q4, q5⟩ := Tp.cells (HTB.out.below hE hb4)
          go_simp
          exact hK _ _ (Below.refl _ _) rfl
        · -- 11: Op.call { value t40, args := #[t44, t45], argTypes := #[41, 41] }
          intro f a w K hE hA hO hF hK
          have e40 : a.tmps[40]? = some (f 5) := hA 5 (by simp) 40 rfl
          have e44 : a.tmps[44]? = some (f 9) := hA 9 (by simp) 44 rfl
          have e45 : a.tmps[45]? = some (f 10) := hA 10 (by simp) 45 rfl
          have e39 : a.tmps[39]? = some (f 4) := hA 4 (by simp) 39 rfl
          have h5 : (f 5) = .func (.func 57) #[] #[] := hF.1
          have h9 : (f 9) = x.val := hF.2.1
          have h10 : (f 10) = t.val := hF.2.2.1
          have h4 : (f 4) = .bool true := hF.2.2.2.1
          clear hA hO hF
          rw [Tp.val] at h9 h10
          go_simp
          refine (compare_below x t _).mono ?_
          rintro e w2 ⟨rfl, hb⟩
          exact ⟨_, rfl, hK _ _ hb rfl⟩
        · -- 12: Op.binOp BinOp.eql 3 t46 (const (0:i64)) 3
          intro f a w K hE hA hO hF hK
          have e46 : a.tmps[46]? = some (f 11) := hA 11 (by simp) 46 rfl
          have e39 : a.tmps[39]? = some (f 4) := hA 4 (by simp) 39 rfl
          have h11 : (f 11) = .int .i64 (cf x t) := hF.1
          have h4 : (f 4) = .bool true := hF.2.1
          clear hA hO hF
          go_simp; exact hK _ _ (Below.refl _ _) (by first | trivial | rfl)
        · -- 13: Op.pick t39 t47 (const (Value.bool false))
          intro f a w K hE hA hO hF hK
          have e39 : a.tmps[39]? = some (f 4) := hA 4 (by simp) 39 rfl
          have e47 : a.tmps[47]? = some (f 12) := hA 12 (by simp) 47 rfl
          have h4 : (f 4) = .bool true := hF.1
          have h12 : (f 12) = .bool (cf x t == 0) := hF.2.1
          clear hA hO hF
          go_simp; exact hK _ _ (Below.refl _ _) (by first | trivial | rfl)
        · -- 14: Op.assign t35
          intro f a w K hE hA hO hF hK
          have e35 : a.tmps[35]? = some (f 0) := hA 0 (by simp) 35 rfl
          have h0 : (f 0) = .int .i64 i := hF.1
          clear hA hO hF
          go_simp; exact hK _ _ (Below.refl _ _) (by first | trivial | rfl)
        · -- 15: Op.assign t48
          intro f a w K hE hA hO hF hK
          have e48 : a.tmps[48]? = some (f 13) := hA 13 (by simp) 48 rfl
          have h13 : (f 13) = .bool (cf x t == 0) := hF.1
          clear hA hO hF
          go_simp; exact hK _ _ (Below.refl _ _) (by first | trivial | rfl)
        intro f w1 hE hF
        have g0 : (f 0) = .int .i64 i := hF.1
        have g1 : (f 1) = .int .i64 i := hF.2.1
        have g2 : (f 2) = .int .i64 n := hF.2.2.1
        have g3 : (f 3) = .bool true := hF.2.2.2.1
        have g4 : (f 4) = .bool true := hF.2.2.2.2.1
        have g5 : (f 5) = .func (.func 57) #[] #[] := hF.2.2.2.2.2.1
        have g6 : (f 6) = .slice (some ⟨b, o, none⟩) n c := hF.2.2.2.2.2.2.1
        have g7 : (f 7) = .int .i64 i := hF.2.2.2.2.2.2.2.1
        have g8 : (f 8) = .pointer (some ⟨b, o + i * 6, none⟩) := hF.2.2.2.2.2.2.2.2.1
        have g9 : (f 9) = x.val := hF.2.2.2.2.2.2.2.2.2.1
        have g10 : (f 10) = t.val := hF.2.2.2.2.2.2.2.2.2.2.1
        have g11 : (f 11) = .int .i64 (cf x t) := hF.2.2.2.2.2.2.2.2.2.2.2.1
        have g12 : (f 12) = .bool (cf x t == 0) := hF.2.2.2.2.2.2.2.2.2.2.2.2.1
        have g13 : (f 13) = .bool (cf x t == 0) := hF.2.2.2.2.2.2.2.2.2.2.2.2.2.1
        have g14 : (f 14) = .int .i64 i := hF.2.2.2.2.2.2.2.2.2.2.2.2.2.2.1
        have g15 : (f 15) = .bool (cf x t == 0) := hF.2.2.2.2.2.2.2.2.2.2.2.2.2.2.2.1
        simp only [bs8D, Fr.puts, Act.put, List.setIfInBounds_toArray, List.set_cons_zero, List.set_cons_succ]
        clear hF
        simp only [bs8S, List.length_cons, List.length_nil, Nat.reduceAdd, List.drop_succ_cons, List.drop_nil]
        rw [g14, g15, HRS.out]
        clear g0 g1 g2 g3 g4 g5 g6 g7 g8 g9 g10 g11 g12 g13 g14 g15
        go_wp2
        go_ret2
        exact ⟨⟨i, rfl⟩, hbel.trans (hE.mono hbel.size)⟩
      · have hres : decide (t ∈ xs) = false := by
          simp only [decide_eq_false_iff_not, hmem]
          omega
        have HRS := Lib.hid hres
        clear hres hmem
        have hd : decide ((i : Int) < n) = false := by simp; omega
        have hd2 : decide (i < n) = false := by simp; omega
        go_wp2_with fail
        go_quiet (fail)
        go_wp2
        go_ret2
        rw [HRS.out]
        exact ⟨⟨i, rfl⟩, below_drewN hbel _⟩

set_option maxRecDepth 100000 in
set_option maxHeartbeats 1000000 in
theorem has_any (A : Option Addr) (n c : Nat) (xs : List Tp) (t : Tp) (w : World) (hx : At w A n c xs) (hr : Rises xs) (hn : n ≤ 1000000000) :
    Calls Try.prog 26 #[.slice A n c, t.val] w fun e w' => e = .returned (.bool (decide (t ∈ xs))) ∧ Below w.heap.size w w' := by
  have hs := fun (o : Obj) => search_any A n c xs t (w.alloc o) (hx.ext ((Below.refl _ w).alloc (Nat.le_refl _) o)) hr hn
  unfold Tp.val at *
  have HS := Lib.hid hs
  clear hs hx hr
  go_enter Try.func26, Try.ntmps26
  go_wp2_with fail
  refine (HS.out _).mono ?_
  rintro e w1 ⟨⟨i, rfl⟩, hb⟩
  go_wp2
  go_ret
  exact ⟨rfl, ((Below.refl _ w).alloc (Nat.le_refl _) _).trans (hb.mono (by simp))⟩
end Has
end Go.Proofs.Ytdckfddlcmkdlaa
