/-
  PermFirst: who may what of one file with six entries. No program in sight.
-/
import Derived.Test.YthnejfmbglbpgaaDoorPfb
namespace Go.Proofs.YthnejfmbglbpgaaDoor.Ab
open Go.RowKit Go.Sort Go.Shelf
def tE : ByteArray := { data := #[] }
def tU : ByteArray := { data := #[117] }
def tV : ByteArray := { data := #[118] }
def tW : ByteArray := { data := #[119] }
def tX : ByteArray := { data := #[120] }
def tY : ByteArray := { data := #[121] }
def tG : ByteArray := { data := #[103] }
def tH : ByteArray := { data := #[104] }
def tR : ByteArray := { data := #[47] }
/-- The six entries. -/
def e6 (b0 b3 b6 b9 b12 b15 : Int) : List GEntry := [⟨1, false, tE, b0⟩, ⟨2, false, tV, b3⟩, ⟨3, false, tE, b6⟩, ⟨4, false, tH, b9⟩, ⟨5, false, tE, b12⟩, ⟨6, false, tE, b15⟩]
def d6 (a : List GEntry) : GFile := ⟨3, tR, [], tU, tG, a, 0⟩
def l6 (g h : List ByteArray) (a : List GEntry) : List GFile := [⟨1, tU, [], tE, tE, [], 0⟩, ⟨1, tV, [], tE, tE, [], 0⟩, ⟨1, tW, [], tE, tE, [], 0⟩, ⟨1, tX, [], tE, tE, [], 0⟩, ⟨2, tG, g, tE, tE, [], 0⟩, ⟨2, tH, h, tE, tE, [], 0⟩] ++ [d6 a]
section
variable {b0 b3 b6 b9 b12 b15 : Int}
theorem e6_apart : (e6 b0 b3 b6 b9 b12 b15).Pairwise fun x y => cfE x y ≠ 0 := by
  have h : ∀ {i j : Int} {x y : ByteArray} {p q : Int}, i ≠ j → cfE ⟨i, false, x, p⟩ ⟨j, false, y, q⟩ ≠ 0 := fun {i j x y p q} hij h => by
    unfold cfE lex at h
    simp only [cmI] at h
    split at h <;> (try split at h) <;> (try split at h) <;> omega
  unfold e6
  simp only [List.pairwise_cons, List.mem_cons, List.not_mem_nil, or_false, forall_eq_or_imp, forall_eq, List.Pairwise.nil, and_true, false_imp_iff, implies_true]
  exact ⟨⟨h (by decide), h (by decide), h (by decide), h (by decide), h (by decide)⟩, ⟨h (by decide), h (by decide), h (by decide), h (by decide)⟩, ⟨h (by decide), h (by decide), h (by decide)⟩, ⟨h (by decide), h (by decide)⟩, h (by decide)⟩
theorem e6_rises : (e6 b0 b3 b6 b9 b12 b15).Pairwise fun a b => ltOf cfE b a = false := by
  have h : ∀ {i j : Int} {x y : ByteArray} {p q : Int}, i < j → ltOf cfE ⟨j, false, y, q⟩ ⟨i, false, x, p⟩ = false := fun {i j x y p q} hij => by
    refine decide_eq_false ?_
    unfold cfE lex
    simp only [cmI]
    split <;> (try split) <;> (try split) <;> omega
  unfold e6
  simp only [List.pairwise_cons, List.mem_cons, List.not_mem_nil, or_false, forall_eq_or_imp, forall_eq, List.Pairwise.nil, and_true, false_imp_iff, implies_true]
  exact ⟨⟨h (by decide), h (by decide), h (by decide), h (by decide), h (by decide)⟩, ⟨h (by decide), h (by decide), h (by decide), h (by decide)⟩, ⟨h (by decide), h (by decide), h (by decide)⟩, ⟨h (by decide), h (by decide)⟩, h (by decide)⟩
theorem e6_srt : srtE (e6 b0 b3 b6 b9 b12 b15) = e6 b0 b3 b6 b9 b12 b15 := (srtE_one e6_apart (List.Perm.refl _) e6_rises).symm
theorem name_v : atom_Name 100 tV = some true := by kernel_rfl
theorem name_h : atom_Name 100 tH = some true := by kernel_rfl
variable (h0 : 0 ≤ b0 ∧ b0 ≤ 7) (h3 : 0 ≤ b3 ∧ b3 ≤ 7) (h6 : 0 ≤ b6 ∧ b6 ≤ 7) (h9 : 0 ≤ b9 ∧ b9 ≤ 7) (h12 : 0 ≤ b12 ∧ b12 ≤ 7) (h15 : 0 ≤ b15 ∧ b15 ≤ 7)
theorem good_bits {k x : Int} {nm : ByteArray} (hk : k = 1 ∨ k = 3 ∨ k = 5 ∨ k = 6) (hn : nm = tE) (hx : 0 ≤ x ∧ x ≤ 7) : mask_good 100 ⟨k, false, nm, x⟩ = some true := by
  subst hn
  unfold mask_good
  dsimp only
  rw [decide_eq_true hx.1, decide_eq_true hx.2, beqS, decide_eq_true (show tE = { data := #[] } from rfl)]
  rcases hk with rfl | rfl | rfl | rfl <;> rfl
theorem good_named {k x : Int} {nm : ByteArray} (hk : k = 2 ∨ k = 4) (hn : atom_Name 100 nm = some true) (hx : 0 ≤ x ∧ x ≤ 7) : mask_good 100 ⟨k, false, nm, x⟩ = some true := by
  unfold mask_good
  dsimp only
  rw [decide_eq_true hx.1, decide_eq_true hx.2, hn]
  rcases hk with rfl | rfl <;> rfl
include h0 h3 h6 h9 h12 h15 in
theorem e6_acl : mask_Acl 100 (e6 b0 b3 b6 b9 b12 b15) = some (e6 b0 b3 b6 b9 b12 b15, true) := by
  have h := acl_some (a := e6 b0 b3 b6 b9 b12 b15) e6_apart (by simp [e6]) (by simp [e6]) (fun x hx => by
    unfold e6 at hx
    simp only [List.mem_cons, List.not_mem_nil, or_false] at hx
    rcases hx with rfl | rfl | rfl | rfl | rfl | rfl
    · exact good_bits (by decide) rfl h0
    · exact good_named (by decide) name_v h3
    · exact good_bits (by decide) rfl h6
    · exact good_named (by decide) name_h h9
    · exact good_bits (by decide) rfl h12
    · exact good_bits (by decide) rfl h15) (fun x hx => by
    unfold e6 at hx
    simp only [List.mem_cons, List.not_mem_nil, or_false] at hx
    rcases hx with rfl | rfl | rfl | rfl | rfl | rfl <;> rfl) (by rw [e6_srt]; rfl) (by rw [e6_srt]; rfl) (by rw [e6_srt]; rfl) (by rw [e6_srt]; rfl)
  rwa [e6_srt] at h
theorem bits_ok {b : Int} (hb : b = 1 ∨ b = 2 ∨ b = 4) : ((if (b != 4) then (if (b != 2) then some (b != 1) else some false) else some false) : Option Bool) = some false := by
  rcases hb with rfl | rfl | rfl <;> rfl
/-- What Can answers. -/
def canB (a : List GEntry) (gr : List GEntry) (own : Bool) (u : ByteArray) (b : Int) : Bool :=
  if own then bitOn (findE a false 1 tE).1.bits b else
    if (findE a false 2 u).2 then bitOn (findE a false 5 tE).1.bits b && bitOn (findE a false 2 u).1.bits b else
      if decide (0 < gr.length) then bitOn (findE a false 5 tE).1.bits b && gr.any fun x => bitOn x.bits b else bitOn (findE a false 6 tE).1.bits b
theorem can_gen {l : List GFile} {u : ByteArray} {d : GFile} {a gr : List GEntry} {b : Int} (hF : perm_File 100 l tR = some (d, true)) (hU : perm_isUser 100 l u = some true) (hb : b = 1 ∨ b = 2 ∨ b = 4) (hA : mask_Acl 100 d.acl = some (a, true)) (ha : a.length < 100) (hG : perm_groups 100 l u d a = some gr) (hg : gr.length < 100) :
    perm_Can 100 l u tR b = some (canB a gr (decide (d.owner = u)) u b) := by
  unfold perm_Can canB
  rw [hF, Option.bind_some, if_pos rfl, hU, Option.bind_some, if_pos rfl, bits_ok hb, Option.bind_some, if_neg (by decide)]
  dsimp only
  rw [hA, Option.bind_some]
  dsimp only
  rw [show perm_Can_c1 100 5 { data := #[] } a b = _ from c1_some (by omega) (by omega), Option.bind_some, beqS]
  by_cases e1 : d.owner = u
  · rw [decide_eq_true e1, if_pos rfl, if_pos rfl, show perm_Can_c1 100 1 { data := #[] } a b = _ from c1_some (by omega) (by omega)]
    rfl
  · rw [decide_eq_false e1, if_neg (by decide), if_neg (by decide), find_some (by omega) (by omega), Option.bind_some]
    cases e2 : (findE a false 2 u).2 with
    | true =>
      rw [if_pos rfl, if_pos rfl]
      show ((if bitOn (findE a false 5 tE).1.bits b then some (decide (0 < (IntKind.i64.wrap (an (findE a false 2 u).1.bits b : Int)))) else some false).bind _) = _
      cases bitOn (findE a false 5 tE).1.bits b <;> rfl
    | false =>
      rw [if_neg (by decide), if_neg (by decide), hG, Option.bind_some]
      by_cases e3 : 0 < gr.length
      · rw [decide_eq_true (show (0 : Int) < (gr.length : Int) by omega), if_pos rfl, decide_eq_true e3, if_pos rfl]
        show (if bitOn (findE a false 5 tE).1.bits b then _ else _) = _
        cases bitOn (findE a false 5 tE).1.bits b with
        | true => rw [if_pos rfl, any_some (by omega) (by omega)]; rfl
        | false => rfl
      · rw [decide_eq_false (show ¬ (0 : Int) < (gr.length : Int) by omega), if_neg (by decide), decide_eq_false e3, if_neg (by decide), show perm_Can_c1 100 6 { data := #[] } a b = _ from c1_some (by omega) (by omega)]
        rfl
theorem l6_file (g h : List ByteArray) (a : List GEntry) : perm_File 100 (l6 g h a) tR = some (d6 a, true) := file_some (xs := [⟨1, tU, [], tE, tE, [], 0⟩, ⟨1, tV, [], tE, tE, [], 0⟩, ⟨1, tW, [], tE, tE, [], 0⟩, ⟨1, tX, [], tE, tE, [], 0⟩, ⟨2, tG, g, tE, tE, [], 0⟩, ⟨2, tH, h, tE, tE, [], 0⟩]) (d := d6 a) (fun f hf => by
  simp only [List.mem_cons, List.not_mem_nil, or_false] at hf
  rcases hf with rfl | rfl | rfl | rfl | rfl | rfl <;> simp) rfl (by simp) (by simp)
theorem l6_user (g h : List ByteArray) (a : List GEntry) {u : ByteArray} (hu : u = tU ∨ u = tV ∨ u = tW ∨ u = tX) : perm_isUser 100 (l6 g h a) u = some true := by
  rw [isUser_some (by simp [l6]) (by simp [l6])]
  rcases hu with rfl | rfl | rfl | rfl <;> rfl
theorem l6_noUser (g h : List ByteArray) (a : List GEntry) : perm_isUser 100 (l6 g h a) tY = some false := by
  rw [isUser_some (by simp [l6]) (by simp [l6])]
  rfl
theorem l6_groups {g h : List ByteArray} (hg : g.length < 100) (hh : h.length < 100) {a : List GEntry} (ha : a.length < 100) (u : ByteArray) : perm_groups 100 (l6 g h a) u (d6 a) a = some (a.filter (grpE (l6 g h a) u (d6 a))) := by
  refine groups_some u (d6 a) (by simp [l6]) (by simp [l6]) (fun f hf => ?_) (by omega) (by omega)
  unfold l6 at hf
  simp only [List.cons_append, List.nil_append, List.mem_cons, List.not_mem_nil, or_false] at hf
  rcases hf with rfl | rfl | rfl | rfl | rfl | rfl | rfl <;> simp [d6] <;> omega
theorem can_no {g h : List ByteArray} {a : List GEntry} {b : Int} : perm_Can 100 (l6 g h a) tY tR b = some false := by
  unfold perm_Can
  rw [l6_file, Option.bind_some, if_pos rfl, l6_noUser]
  rfl
end
end Go.Proofs.YthnejfmbglbpgaaDoor.Ab
