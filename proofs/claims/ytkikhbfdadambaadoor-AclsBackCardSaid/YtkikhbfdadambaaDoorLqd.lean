/-
 Words one behind the other, lines one behind the other. No program in sight.
-/
import Derived.Test.YtkikhbfdadambaaDoorLqb
namespace Go.Proofs.YtkikhbfdadambaaDoor.Ab
open Go.RowKit
def gapL (l : List UInt8) : Prop := l = [] ∨ ∃ x r, l = x :: r ∧ gapB x = true
structure WordB (w : ByteArray) : Prop where
 ne : w.data.toList ≠ []
 no : ∀ x ∈ w.data.toList, gapB x = false
 hd : w.data.toList.head? ≠ some 35
theorem wd_app {w r : List UInt8} (hno : ∀ x ∈ w, gapB x = false) (hr : gapL r) : wdL (w ++ r) = w ∧ rsL (w ++ r) = r := by
 unfold wdL rsL
 have h : ∀ x ∈ w, (!gapB x) = true := fun x hx => by rw [hno x hx]; rfl
 rw [List.takeWhile_append_of_pos h, List.dropWhile_append_of_pos h]
 rcases hr with rfl | ⟨x, r, rfl, hx⟩
 ·exact ⟨List.append_nil _, rfl⟩
 ·rw [List.takeWhile_cons_of_neg (by rw [hx]; decide), List.dropWhile_cons_of_neg (by rw [hx]; decide), List.append_nil]
  exact ⟨rfl, rfl⟩
theorem ws_word {w : ByteArray} {r : List UInt8} {a : Nat} (hw : WordB w) (hr : gapL r) : wsL (w.data.toList ++ r) a = ⟨w, (a : Int)⟩ :: wsL r (a + w.size) := by
 obtain ⟨h1, h2⟩ := wd_app hw.no hr
 have hw2 := of_list w
 rw [← bsize]
 obtain ⟨ne, no, hd⟩ := hw
 generalize w.data.toList = l at *
 cases l with
 | nil => exact absurd rfl ne
 | cons x l =>
  have h3 : x ≠ 35 := fun e => hd (by rw [e]; rfl)
  rw [List.cons_append] at h1 h2 ⊢
  rw [wsL_word (no x (List.mem_cons_self ..)) h3, h1, h2, hw2]
def lnsL (l : List UInt8) (a : Nat) : List GLine := linesP (cutL 10 l) a
theorem lns_nl {p r : List UInt8} {a : Nat} (h : (10 : UInt8) ∉ p) : lnsL (p ++ 10 :: r) a = lineL (wsL (bareL p) a) ++ lnsL r (a + p.length + 1) := by
 unfold lnsL
 rw [cutL_pre h, linesP]
theorem lns_end {p : List UInt8} {a : Nat} (h : (10 : UInt8) ∉ p) : lnsL p a = lineL (wsL (bareL p) a) := by
 unfold lnsL
 rw [cutL_no h, linesP, linesP, List.append_nil]
theorem wr_none : ∀ {l : List UInt8} {a : Nat}, (∀ x ∈ l, badB x = false) → wrL l a = none
 | [], _, _ => rfl
 | x :: l, a, h => by
  rw [wrL, h x (List.mem_cons_self ..), if_neg Bool.false_ne_true, wr_none fun y hy => h y (List.mem_cons_of_mem _ hy)]
theorem bad_nl {p r : List UInt8} {a : Nat} (h : (10 : UInt8) ∉ p) (hb : ∀ x ∈ bareL p, badB x = false) : badR (p ++ 10 :: r) a = badR r (a + p.length + 1) := by
 rw [badR_cut, badR_cut, cutL_pre h, badP, wr_none hb]
theorem bare_app : ∀ {m e : List UInt8}, (13 : UInt8) ∉ m → bareL (m ++ e) = m ++ bareL e
 | [], _, _ => rfl
 | x :: m, e, h => by
  have h1 : (x == 13) = false := beq_eq_false_iff_ne.2 fun e => h (by rw [e]; exact List.mem_cons_self ..)
  rw [List.cons_append, bareL, h1, Bool.and_false, if_neg Bool.false_ne_true, bare_app fun hm => h (List.mem_cons_of_mem _ hm), List.cons_append]
end Go.Proofs.YtkikhbfdadambaaDoor.Ab
