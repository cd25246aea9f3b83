/-
  entaillaw2.Tames: tuples of few, of numbers: at most eighty.
-/
import Derived.Test.YtdckfddlcmkdlaaSame
import Derived.Test.YtdckfddlcmkdlaaTame
namespace Go.Proofs.Ytdckfddlcmkdlaa
open Go.RowKit
namespace Tames
open Cmp TO Rd

/-- A slice that reads as a list of int64. -/
structure Ints (w : World) (A : Option Addr) (n : Nat) (zs : List Int) : Prop where
  len : zs.length = n
  max : n ≤ maxLen
  at_ : ∀ k, k < n → ∃ b o, A = some ⟨b, o, none⟩ ∧ b < w.heap.size ∧ w.cell? ⟨b, o + k, none⟩ = some (.int .i64 (zs.getD k 0))
theorem Ints.ext {w w' : World} {A : Option Addr} {n : Nat} {zs : List Int} (h : Ints w A n zs) (hb : Below w.heap.size w w') : Ints w' A n zs :=
  ⟨h.len, h.max, fun k hk => by
    obtain ⟨b, o, e, hl, hc⟩ := h.at_ k hk
    exact ⟨b, o, e, Nat.lt_of_lt_of_le hl hb.size, (hb.cell (p := ⟨b, o + k, none⟩) hl).trans hc⟩⟩
def tames (zs : List Int) : List Tp := (zs.take 80).map Tame.tame
theorem tames_len (zs : List Int) : (tames zs).length ≤ 80 := by
  unfold tames
  rw [List.length_map, List.length_take]
  omega
theorem map_snoc (zs : List Int) (k : Nat) (h : k < zs.length) : (zs.take (k + 1)).map Tame.tame = (zs.take k).map Tame.tame ++ [Tame.tame (zs.getD k 0)] := by
  rw [List.take_succ_eq_append_getElem h, List.map_append, List.getD_eq_getElem?_getD, List.getElem?_eq_getElem h]
  rfl

set_option maxRecDepth 100000 in
set_option maxHeartbeats 2000000 in
theorem tames_any (A : Option Addr) (n c : Nat) (zs : List Int) (w : World) (h : Ints w A n zs) :
    Calls Try.prog 14 #[.slice A n c] w fun e w' => ∃ A' n' c', e = .returned (.slice A' n' c') ∧ At w' A' n' c' (tames zs) ∧ Below w.heap.size w w' := by
  obtain ⟨i0, hi0, hz0, hz1, hz2⟩ := info_parts Of.infoTp
  have HI := Lib.hid h
  have HL := Lib.hid h.len
  have hmx := h.max
  unfold maxLen at hmx
  clear h
  go_enter Try.func14, Try.ntmps14
  go_wp2
  go_loopg [3, 4] 80 (fun gh s3 s4 wr => ∃ (k : Nat) (A5 : Option Addr) (c5 : Nat), k ≤ n ∧ k ≤ 80 ∧ 80 - k ≤ gh ∧ s4 = .int .i64 k ∧ s3 = .slice A5 k c5 ∧ Hid (wr.ownsRow w.heap.size 41 6 (.slice A5 k c5) k (flat ((zs.take k).map Tame.tame))) ∧ Below w.heap.size w wr)
  case atStart => exact ⟨0, none, 0, by omega, by omega, by omega, rfl, rfl, Lib.hid ⟨by simp [flat], .inl ⟨rfl, rfl⟩⟩, Below.refl _ _⟩
  case round =>
    obtain ⟨k, A5, c5, hk, hk8, hg, rfl, rfl, HO, hbel⟩ := hrel
    by_cases hlt : k < n
    · by_cases h80 : k < 80
      · obtain ⟨b, o, rfl, hb, hc⟩ := HI.out.at_ k hlt
        have hc1 : wr.cell? ⟨b, o + k, none⟩ = some (.int .i64 (zs.getD k 0)) := (hbel.cell (p := ⟨b, o + k, none⟩) hb).trans hc
        clear hc
        have HN := Lib.hid (map_snoc zs k (by rw [HL.out]; exact hlt))
        generalize zs.getD k 0 = z at *
        have hcon := fun W => Tame.tame_any z W
        unfold Tp.val at hcon
        have HCON := Lib.hid hcon
        clear hcon
        go_wp2_with fail
        refine (HCON.out _).mono ?_
        rintro e w1 ⟨rfl, hb1⟩
        have HOWN0 := Lib.hid (Own.ext_own HO.out hb1)
        have hbw0 : Below w.heap.size w w1 := hbel.trans (hb1.mono hbel.size)
        clear hc1 hb1
        go_wp2_with (at_builtin; refine wpList_append_own _ rfl _ _ 23 rfl w.heap.size 41 i0 _ 6 96 Try.underlying23 hi0 hz0 hz1 hz2 rfl (by decide) _ _ _ rfl (HOWN0.out.alloc _) ⟨w1.heap.size, 0, none⟩ 1 1 (Tame.tame z).enc rfl rfl ?qc2 (Tame.tame z).enc_one ?qc4 ?qc5 ?qc6 ?_)
        case qc2 => exact fun j u hj => Mm.Bk.reads (Mm.Bk.new _ 41 (Tame.tame z).enc) j u hj
        case qc4 => simp only [maxLen]; omega
        case qc5 => omega
        case qc6 => have := hbw0.size; simp; omega
        intro v' w5 hown5 hgrow5 _
        have hb5 : Below w.heap.size w w5 := ((hbw0.alloc hbw0.size _).grown hgrow5 (by have := hbw0.size; simp; omega) (by
          intro q hq
          rcases HOWN0.out.2 with ⟨hv, _⟩ | ⟨g, cap, cur, hv, hg, _⟩
          · rw [hv] at hq
            simp [Value.ownBlock] at hq
          · rw [hv] at hq
            simp [Value.ownBlock] at hq
            omega))
        obtain ⟨A6, c6, hv6⟩ := Own.slice_of hown5
        have HV6 := Lib.hid hv6
        have HOWN5 := Lib.hid hown5
        clear hv6 hown5 hgrow5
        go_wp2
        go_roundg (80 - (k + 1))
        case measure => omega
        case rel => exact ⟨k + 1, A6, c6, by omega, by omega, Nat.le_refl _, by go_num, HV6.out, Lib.hid (by have h1 := HOWN5.out; rw [HV6.out] at h1; rw [HN.out, flat_append]; simpa [flat] using h1), hb5⟩
      · have hk80 : k = 80 := by omega
        have hfin := At.of_own HO.out
        rw [hk80] at hfin
        have HF := Lib.hid hfin
        clear hfin hk80
        go_wp2
        go_ret
        exact ⟨A5, k, c5, rfl, by have h1 := HF.out; rw [show k = 80 by omega]; exact h1, hbel⟩
    · have hfin := At.of_own HO.out
      rw [show zs.take k = zs.take 80 by rw [List.take_of_length_le (by rw [HL.out]; omega), List.take_of_length_le (by rw [HL.out]; omega)]] at hfin
      have HF := Lib.hid hfin
      clear hfin
      go_wp2
      go_ret
      exact ⟨A5, k, c5, rfl, HF.out, hbel⟩
end Tames
end Go.Proofs.Ytdckfddlcmkdlaa
