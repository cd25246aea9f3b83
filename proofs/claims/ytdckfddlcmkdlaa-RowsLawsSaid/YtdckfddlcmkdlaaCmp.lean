/-
  The walks of cmp.Or at ints, of tupl.Compare and tupl.Less: the first text in which two tuples part decides.
-/
import Derived.Test.YtdckfddlcmkdlaaTp
import Derived.Test.YtdckfddlcmkdlaaShelf
import Derived.WalkSpells
import Derived.WalkLawsBesides
import Derived.StillTailTactics
import Derived.Handy
import Derived.Lib.Hide
namespace Go.Proofs.Ytdckfddlcmkdlaa
open Go.RowKit
namespace Cmp
/-- The first that is not 0. -/
def orI : List Int → Int
  | [] => 0
  | x :: r => if x = 0 then orI r else x
theorem orI_zero (l : List Int) (k : Nat) (h : l.getD k 0 = 0) (hk : k < l.length) : orI (l.drop k) = orI (l.drop (k + 1)) := by
  rw [List.drop_eq_getElem_cons hk, orI, if_pos]
  rw [List.getD_eq_getElem?_getD, List.getElem?_eq_getElem hk] at h
  exact h
theorem orI_first (l : List Int) (k : Nat) (h : l.getD k 0 ≠ 0) (hk : k < l.length) : orI (l.drop k) = l.getD k 0 := by
  have e : l.getD k 0 = l[k] := by rw [List.getD_eq_getElem?_getD, List.getElem?_eq_getElem hk]; rfl
  rw [List.drop_eq_getElem_cons hk, orI, if_neg (by rw [← e]; exact h), e]

set_option maxHeartbeats 400000 in
theorem or_any (b n c : Nat) (zs : List Int) (w : World) (hz : zs.length = n) (hm : n ≤ 1000) (hc : ∀ k, k < n → w.cell? ⟨b, k, none⟩ = some (.int .i64 (zs.getD k 0))) :
    Calls Try.prog 77 #[.slice (some ⟨b, 0, none⟩) n c] w fun e w' => e = .returned (.int .i64 (orI zs)) ∧ w' = w := by
  have HC := Lib.hid hc
  have HZ := Lib.hid hz
  clear hc hz
  go_enter Try.func77, Try.ntmps77
  go_wp2
  go_loop [8] (fun i => ∃ k : Nat, k ≤ n ∧ i = .int .i64 k ∧ Hid (orI zs = orI (zs.drop k))) (fun i => n - (intOf i).toNat)
  case atStart => exact ⟨0, by omega, rfl, Lib.hid rfl⟩
  case round =>
    obtain ⟨k, hk, rfl, hd⟩ := hrel
    by_cases hlt : k < n
    · have hcell := HC.out k hlt
      by_cases hv : zs.getD k 0 = 0
      · have hv' : (zs.getD k 0 != 0) = false := by rw [hv]; rfl
        have HV := Lib.hid hv
        clear hv
        generalize hx : zs.getD k 0 = x at *
        have HX := Lib.hid hx
        clear hx
        go_wp2
        go_round
        case rel => exact ⟨k + 1, by omega, by go_num, Lib.hid (hd.out.trans (orI_zero zs k (HX.out.trans HV.out) (by rw [HZ.out]; exact hlt)))⟩
        case measure => simp [intOf]; omega
      · have hv' : (zs.getD k 0 != 0) = true := by simpa using hv
        have HV := Lib.hid hv
        clear hv
        generalize hx : zs.getD k 0 = x at *
        have HX := Lib.hid hx
        clear hx
        go_wp2
        go_ret
        have e : x = orI zs := by rw [hd.out, orI_first zs k (by rw [HX.out]; exact HV.out) (by rw [HZ.out]; exact hlt), HX.out]
        exact ⟨congrArg (fun q => Ending.returned (.int .i64 q)) e, rfl⟩
    · go_wp2
      go_ret
      have hkn : k = n := by omega
      exact ⟨by rw [hd.out, List.drop_eq_nil_of_le (by rw [HZ.out]; omega)]; rfl, rfl⟩

def cmpS (a b : ByteArray) : Int := Lib.compareBytes a.data.toList b.data.toList
def parts (x y : Tp) : List Int := [cmpS x.ot y.ot, cmpS x.oi y.oi, cmpS x.rl y.rl, cmpS x.st y.st, cmpS x.si y.si, cmpS x.sr y.sr]
def cf (x y : Tp) : Int := orI (parts x y)

set_option maxRecDepth 100000 in
set_option maxHeartbeats 2000000 in
theorem compare_any (x y : Tp) (w : World) : Calls Try.prog 57 #[x.val, y.val] w fun e w' => e = .returned (.int .i64 (cf x y)) ∧
    w' = (((w.alloc (.cells x.enc.toArray 41)).alloc (.cells y.enc.toArray 41)).alloc (.cells ((parts x y).map (Value.int .i64)).toArray 3)).drew := by
  unfold Tp.val
  go_enter Try.func57, Try.ntmps57
  go_wp2
  refine wp_region_still_tail 40 (by kernel_rfl) (by kernel_rfl) ?_
  simp only [List.take_succ_cons, List.take_zero, List.drop_succ_cons, List.drop_zero]
  obtain ⟨W, hW⟩ : ∃ W : World, W = ((w.alloc (.cells x.enc.toArray 41)).alloc (.cells y.enc.toArray 41)).drew := ⟨_, rfl⟩
  change wpStill _ _ (World.drew ((w.alloc (.cells x.enc.toArray 41)).alloc (.cells y.enc.toArray 41))) (fun a' => wpList _ _ _ _ a' (World.drew ((w.alloc (.cells x.enc.toArray 41)).alloc (.cells y.enc.toArray 41)))) _ _
  rw [← hW]
  have hbx : Mm.Bk W w.heap.size 41 x.enc := by rw [hW]; exact ((Mm.Bk.new w _ _).alloc _).drew
  have hby : Mm.Bk W (w.heap.size + 1) 41 y.enc := by
    rw [hW]
    have := Mm.Bk.new (w.alloc (.cells x.enc.toArray 41)) 41 y.enc
    rw [World.size_alloc] at this
    exact this.drew
  obtain ⟨k0, k1, k2, k3, k4, k5⟩ := Tp.cells hbx
  obtain ⟨m0, m1, m2, m3, m4, m5⟩ := Tp.cells hby
  have HW := Lib.hid hW
  have hsz : W.heap.size = w.heap.size + 2 := by rw [hW]; simp
  have HS := Lib.hid hsz
  clear hW hbx hby hsz
  repeat still_step
  still_call (Try.strings_Compare _ _ _)
  repeat still_step
  still_call (Try.strings_Compare _ _ _)
  repeat still_step
  still_call (Try.strings_Compare _ _ _)
  repeat still_step
  still_call (Try.strings_Compare _ _ _)
  repeat still_step
  still_call (Try.strings_Compare _ _ _)
  repeat still_step
  still_call (Try.strings_Compare _ _ _)
  repeat still_step
  refine wpStill_nil ?_
  have hor := or_any W.heap.size 6 6 (parts x y) (W.alloc (.cells ((parts x y).map (Value.int .i64)).toArray 3)) rfl (by omega) (fun k hk => by
    rw [(Mm.Bk.new W _ _).cell k, List.getElem?_map, List.getD_eq_getElem?_getD, List.getElem?_eq_getElem (show k < (parts x y).length from hk)]
    rfl)
  have HOR := Lib.hid hor
  clear hor k0 k1 k2 k3 k4 k5 m0 m1 m2 m3 m4 m5
  go_wp2_with fail
  refine HOR.out.mono ?_
  rintro e w' ⟨rfl, rfl⟩
  go_wp2
  go_ret
  exact ⟨rfl, by rw [HW.out]; rfl⟩

theorem compare_below (x y : Tp) (w : World) : Calls Try.prog 57 #[x.val, y.val] w fun e w' => e = .returned (.int .i64 (cf x y)) ∧ Below w.heap.size w w' :=
  (compare_any x y w).mono fun _ _ ⟨he, hw⟩ => ⟨he, by
    subst hw
    exact ((((Below.refl _ w).alloc (Nat.le_refl _) _).alloc (by simp) _).alloc (by simp; omega) _).drew⟩

/-- Is the one below the other? -/
def ltB (x y : Tp) : Bool := decide (cf x y < 0)
set_option maxRecDepth 100000 in
set_option maxHeartbeats 1000000 in
theorem less_any (x y : Tp) (w : World) : Calls Try.prog 60 #[x.val, y.val] w fun e w' => e = .returned (.bool (ltB x y)) ∧ Below w.heap.size w w' := by
  unfold ltB
  have hcon := fun W => compare_below x y W
  unfold Tp.val at *
  have HC := Lib.hid hcon
  clear hcon
  generalize cf x y = r at *
  go_enter Try.func60, Try.ntmps60
  go_wp2_with fail
  refine (HC.out _).mono ?_
  rintro e w' ⟨rfl, hb⟩
  go_wp2
  go_ret
  exact ⟨rfl, (((Below.refl _ w).alloc (Nat.le_refl _) _).alloc (by simp) _).trans (hb.mono (by simp; omega))⟩
end Cmp
end Go.Proofs.Ytdckfddlcmkdlaa
