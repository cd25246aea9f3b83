/-
 What is told of facts is read as the same; what no line tells is not told: the plain law. No program in sight.
-/
import Derived.Test.YtkikhbfdadambaaDoorQcb
namespace Go.Proofs.YtkikhbfdadambaaDoor.Ab
open Go.RowKit
theorem et_nil : acls_EntriesText 1000001 [] = some (⟨#[]⟩, false) := by kernel_rfl
theorem text_no {f : GFile} {t : ByteArray} (ht : acls_toldFile 1000001 f = some t) (hz : t.size ≤ 10000) {ls : List GLine} (hl : linesF (t ++ ⟨#[10]⟩) = (ls, 0, 0)) (hx : ∃ x ∈ ls, factF 1000001 (tx x.words) x.at_ = none) : acls_Text 1000001 [f] = some (⟨#[]⟩, false) := by
 have hn : 1000000 < 1000001 := by decide
 have s1 : (t ++ ⟨#[10]⟩ : ByteArray).size = t.size + 1 := ByteArray.size_append
 have hT : acls_Text_L 1000001 [f] ⟨#[]⟩ = some (.inl (⟨#[]⟩ ++ (t ++ ⟨#[10]⟩))) := by
  have s2 : ((⟨#[]⟩ : ByteArray) ++ (t ++ ⟨#[10]⟩)).size = 0 + (t.size + 1) := by rw [ByteArray.size_append, s1]; rfl
  rw [acls_Text_L, ht, Option.bind_some, catS (by show t.size + 1 ≤ _; unfold maxLen; omega), Option.bind_some, s1, s2]
  unfold grd
  rw [if_pos (decide_eq_true (by show 0 + (t.size + 1) ≤ _; omega)), show decide (200000 < 0 + (t.size + 1)) = false from decide_eq_false (by omega), if_neg Bool.false_ne_true, acls_Text_L]
 have he : (⟨#[]⟩ : ByteArray) ++ (t ++ ⟨#[10]⟩) = t ++ ⟨#[10]⟩ := bytes_inj (by rw [list_app]; rfl)
 rw [he] at hT
 obtain ⟨r, r1, r2, _⟩ := parse_F hn (s := t ++ ⟨#[10]⟩) (by omega)
 rw [hl] at r2
 have hr : r.2.2 ≠ 0 := by
  intro h0
  obtain ⟨_, _, h3⟩ := r2 h0
  obtain ⟨x, x1, x2⟩ := hx
  obtain ⟨i, hi⟩ := List.getElem?_of_mem x1
  have h4 := congrArg (fun l => l[i]?) h3
  dsimp only at h4
  simp only [List.getElem?_map, hi, Option.map_some, x2] at h4
  cases hgi : r.1[i]? with
  | none => rw [hgi] at h4; cases h4
  | some g => rw [hgi] at h4; cases h4
 unfold acls_Text
 rw [show grd (decide (([f] : List GFile).length ≤ 1000000000)) = (id : Option (ByteArray × Bool) → _) from rfl, hT]
 show (acls_Parse 1000001 (t ++ ⟨#[10]⟩)).bind _ = _
 rw [r1, Option.bind_some, show (r.2.2 != 0) = true from bne_iff_ne.2 hr, if_pos rfl]
theorem okw {b : ByteArray} (h : (!b.data.toList.isEmpty && b.data.toList.all (fun x => !gapB x && !badB x) && b.data.toList.head? != some 35) = true) : OKW b := by
 simp only [Bool.and_eq_true, Bool.not_eq_true', List.all_eq_true, bne_iff_ne, ne_eq] at h
 obtain ⟨⟨h1, h2⟩, h3⟩ := h
 refine ⟨⟨fun e => ?_, fun x hx => (h2 x hx).1, h3⟩, fun x hx => (h2 x hx).2⟩
 rw [e] at h1
 cases h1
theorem text_8 {s : ByteArray} {is : List Nat} {m : List GEntry} (hz : s.size ≤ 150) (h : AclT is s.data.toList) (ht : acls_EntriesText 1000001 m = some (s, true)) : acls_Text 1000001 [⟨3, ⟨#[97]⟩, [], ⟨#[97]⟩, ⟨#[98]⟩, m, 0⟩] = some (⟨#[]⟩, false) := by
 have hw := acl_word h
 have hws : ∀ w ∈ [(⟨#[100, 105, 114]⟩ : ByteArray), ⟨#[97]⟩, ⟨#[97]⟩, ⟨#[98]⟩, s], OKW w := by
  intro w hm
  simp only [List.mem_cons, List.not_mem_nil, or_false] at hm
  rcases hm with rfl | rfl | rfl | rfl | rfl
  ·exact okw (by kernel_rfl)
  ·exact okw (by kernel_rfl)
  ·exact okw (by kernel_rfl)
  ·exact okw (by kernel_rfl)
  ·exact hw
 have hsz : ∀ w ∈ [(⟨#[100, 105, 114]⟩ : ByteArray), ⟨#[97]⟩, ⟨#[97]⟩, ⟨#[98]⟩, s], w.size < 1000000 := by
  intro w hm
  simp only [List.mem_cons, List.not_mem_nil, or_false] at hm
  rcases hm with rfl | rfl | rfl | rfl | rfl
  ·exact Nat.le_of_ble_eq_true rfl
  ·exact Nat.le_of_ble_eq_true rfl
  ·exact Nat.le_of_ble_eq_true rfl
  ·exact Nat.le_of_ble_eq_true rfl
  ·omega
 have hold : acls_toldFile 1000001 ⟨3, ⟨#[97]⟩, [], ⟨#[97]⟩, ⟨#[98]⟩, m, 0⟩ = some (joinT [⟨#[100, 105, 114]⟩, ⟨#[97]⟩, ⟨#[97]⟩, ⟨#[98]⟩, s] ⟨#[32]⟩) := by
  unfold acls_toldFile
  dsimp only
  rw [ht, Option.bind_some, show ((3 : Int) == 1) = false from rfl, if_neg Bool.false_ne_true, show ((3 : Int) == 2) = false from rfl, if_neg Bool.false_ne_true, show ((3 : Int) == 3) = true from rfl, if_pos rfl, lj (by show 5 < 1000000; decide) hsz]
  rfl
 have hrl := (row_ok _ hws).2
 have hsum : ([(⟨#[100, 105, 114]⟩ : ByteArray), ⟨#[97]⟩, ⟨#[97]⟩, ⟨#[98]⟩, s].map fun w => w.size + 1).sum ≤ 200 := by
  show (3 + 1) + ((1 + 1) + ((1 + 1) + ((1 + 1) + ((s.size + 1) + 0)))) ≤ 200
  omega
 have hjs : (joinT [⟨#[100, 105, 114]⟩, ⟨#[97]⟩, ⟨#[97]⟩, ⟨#[98]⟩, s] ⟨#[32]⟩).size = (rowL [⟨#[100, 105, 114]⟩, ⟨#[97]⟩, ⟨#[97]⟩, ⟨#[98]⟩, s]).length := (bsize _).symm
 obtain ⟨n1, n2, n3⟩ := lns_rows [[(⟨#[100, 105, 114]⟩ : ByteArray), ⟨#[97]⟩, ⟨#[97]⟩, ⟨#[98]⟩, s]] 0 (fun ts ht w hw => by
  rw [List.mem_singleton] at ht
  rw [ht] at hw
  exact hws w hw)
 have hlist : (joinT [⟨#[100, 105, 114]⟩, ⟨#[97]⟩, ⟨#[97]⟩, ⟨#[98]⟩, s] ⟨#[32]⟩ ++ ⟨#[10]⟩ : ByteArray).data.toList = rowsB [[⟨#[100, 105, 114]⟩, ⟨#[97]⟩, ⟨#[97]⟩, ⟨#[98]⟩, s]] := by
  rw [list_app]
  rfl
 have hF : linesF (joinT [⟨#[100, 105, 114]⟩, ⟨#[97]⟩, ⟨#[97]⟩, ⟨#[98]⟩, s] ⟨#[32]⟩ ++ ⟨#[10]⟩) = (linesJ [[⟨#[100, 105, 114]⟩, ⟨#[97]⟩, ⟨#[97]⟩, ⟨#[98]⟩, s]] 0, 0, 0) := by
  rw [linesF_good2 (by rw [ByteArray.size_append, hjs]; show _ + 1 ≤ _; omega) (by rw [hlist, n3]; show 1 ≤ 5000; decide) (by rw [hlist, n2]), hlist, n1]
 have hJ : linesJ [[⟨#[100, 105, 114]⟩, ⟨#[97]⟩, ⟨#[97]⟩, ⟨#[98]⟩, s]] 0 = [⟨0, wordsJ [⟨#[100, 105, 114]⟩, ⟨#[97]⟩, ⟨#[97]⟩, ⟨#[98]⟩, s] 0⟩] := rfl
 rw [hJ] at hF
 refine text_no hold (by omega) hF ⟨_, List.mem_cons_self .., ?_⟩
 dsimp only
 rw [wordsJ_tx]
 have hp : okO 1000001 ⟨#[97]⟩ ⟨#[97]⟩ ⟨#[98]⟩ s = false := by
  unfold okO
  rw [show pathF (⟨#[97]⟩ : ByteArray).data.toList = false from by kernel_rfl]
  rfl
 have hf : factF 1000001 [⟨#[100, 105, 114]⟩, ⟨#[97]⟩, ⟨#[97]⟩, ⟨#[98]⟩, s] 0 = fO 1000001 3 0 [⟨#[97]⟩, ⟨#[97]⟩, ⟨#[98]⟩, s] := rfl
 rw [hf]
 unfold fO
 dsimp only
 rw [hp]
 rfl
theorem text_9 {s : ByteArray} {is : List Nat} {m : List GEntry} (hz : s.size ≤ 150) (h : AclT is s.data.toList) (ht : acls_EntriesText 1000001 m = some (s, true)) : acls_Text 1000001 [⟨4, ⟨#[47, 97]⟩, [], ByteArray.empty, ⟨#[98]⟩, m, 0⟩] = some (⟨#[]⟩, false) := by
 have hw := acl_word h
 have hsz : ∀ w ∈ [(⟨#[102, 105, 108, 101]⟩ : ByteArray), ⟨#[47, 97]⟩, ByteArray.empty, ⟨#[98]⟩, s], w.size < 1000000 := by
  intro w hm
  simp only [List.mem_cons, List.not_mem_nil, or_false] at hm
  rcases hm with rfl | rfl | rfl | rfl | rfl
  ·exact Nat.le_of_ble_eq_true rfl
  ·exact Nat.le_of_ble_eq_true rfl
  ·exact Nat.le_of_ble_eq_true rfl
  ·exact Nat.le_of_ble_eq_true rfl
  ·omega
 have hold : acls_toldFile 1000001 ⟨4, ⟨#[47, 97]⟩, [], ByteArray.empty, ⟨#[98]⟩, m, 0⟩ = some (joinT [⟨#[102, 105, 108, 101]⟩, ⟨#[47, 97]⟩, ByteArray.empty, ⟨#[98]⟩, s] ⟨#[32]⟩) := by
  unfold acls_toldFile
  dsimp only
  rw [ht, Option.bind_some, show ((4 : Int) == 1) = false from rfl, if_neg Bool.false_ne_true, show ((4 : Int) == 2) = false from rfl, if_neg Bool.false_ne_true, show ((4 : Int) == 3) = false from rfl, if_neg Bool.false_ne_true, show ((4 : Int) == 4) = true from rfl, if_pos rfl, lj (by show 5 < 1000000; decide) hsz]
  rfl
 generalize hJ : joinT [⟨#[102, 105, 108, 101]⟩, ⟨#[47, 97]⟩, ByteArray.empty, ⟨#[98]⟩, s] ⟨#[32]⟩ = J at hold
 have hlist : J.data.toList = [102, 105, 108, 101] ++ (32 :: ([47, 97] ++ (32 :: 32 :: ([98] ++ (32 :: (s.data.toList ++ [])))))) := by
  rw [← hJ]
  show Lib.join _ [32] = _
  simp only [List.map_cons, List.map_nil, Lib.join_cons, Lib.joinTail, List.flatten_cons, List.flatten_nil, List.append_nil, List.cons_append, List.nil_append]
  rfl
 have hbad : ∀ x ∈ J.data.toList, badB x = false := by
  intro x hx
  rw [hlist] at hx
  simp only [List.cons_append, List.nil_append, List.append_nil, List.mem_cons, List.mem_append] at hx
  rcases hx with rfl | rfl | rfl | rfl | rfl | rfl | rfl | rfl | rfl | rfl | rfl | hx
  all_goals first | decide | exact hw.ok x hx
 have n10 : (10 : UInt8) ∉ J.data.toList := fun hm => (bad_no (hbad _ hm)).1 rfl
 have n13 : (13 : UInt8) ∉ J.data.toList := fun hm => (bad_no (hbad _ hm)).2 rfl
 have b0 := bare_app (m := J.data.toList) (e := []) n13
 rw [show bareL [] = [] from rfl, List.append_nil] at b0
 have hjs : J.size ≤ 200 := by
  have := congrArg List.length hlist
  rw [bsize] at this
  have h2 : s.data.toList.length = s.size := bsize s
  simp at this
  omega
 have o1 : WordB ⟨#[102, 105, 108, 101]⟩ := (okw (by kernel_rfl)).wd
 have o2 : WordB ⟨#[47, 97]⟩ := (okw (by kernel_rfl)).wd
 have o3 : WordB ⟨#[98]⟩ := (okw (by kernel_rfl)).wd
 have hws : ∃ a1 a2 a3 a4 : Int, wsL J.data.toList 0 = [⟨⟨#[102, 105, 108, 101]⟩, a1⟩, ⟨⟨#[47, 97]⟩, a2⟩, ⟨⟨#[98]⟩, a3⟩, ⟨s, a4⟩] := by
  rw [hlist, show ([102, 105, 108, 101] : List UInt8) = (⟨#[102, 105, 108, 101]⟩ : ByteArray).data.toList from rfl, ws_word o1 (.inr ⟨32, _, rfl, rfl⟩), wsL_gap rfl, show ([47, 97] : List UInt8) = (⟨#[47, 97]⟩ : ByteArray).data.toList from rfl, ws_word o2 (.inr ⟨32, _, rfl, rfl⟩), wsL_gap rfl, wsL_gap rfl, show ([98] : List UInt8) = (⟨#[98]⟩ : ByteArray).data.toList from rfl, ws_word o3 (.inr ⟨32, _, rfl, rfl⟩), wsL_gap rfl, ws_word hw.wd (.inl rfl), wsL_nil]
  exact ⟨_, _, _, _, rfl⟩
 obtain ⟨a1, a2, a3, a4, hws⟩ := hws
 have hl2 : (J ++ ⟨#[10]⟩ : ByteArray).data.toList = J.data.toList ++ 10 :: [] := by rw [list_app]
 have hlns : lnsL (J.data.toList ++ 10 :: []) 0 = [⟨a1, [⟨⟨#[102, 105, 108, 101]⟩, a1⟩, ⟨⟨#[47, 97]⟩, a2⟩, ⟨⟨#[98]⟩, a3⟩, ⟨s, a4⟩]⟩] := by
  rw [lns_nl n10, b0, hws, lns_end (by decide)]
  rfl
 have hbr : badR (J.data.toList ++ 10 :: []) 0 = none := by
  rw [bad_nl n10 (by rw [b0]; exact hbad)]
  rfl
 have hcnt : (J.data.toList ++ 10 :: []).count 10 = 1 := by
  rw [List.count_append, List.count_eq_zero_of_not_mem n10]
  rfl
 have hF : linesF (J ++ ⟨#[10]⟩) = ([⟨a1, [⟨⟨#[102, 105, 108, 101]⟩, a1⟩, ⟨⟨#[47, 97]⟩, a2⟩, ⟨⟨#[98]⟩, a3⟩, ⟨s, a4⟩]⟩], 0, 0) := by
  rw [linesF_good2 (by rw [ByteArray.size_append]; show _ + 1 ≤ _; omega) (by rw [hl2, hcnt]; decide) (by rw [hl2, hbr]), hl2, hlns]
 exact text_no hold (by omega) hF ⟨_, List.mem_cons_self .., rfl⟩
theorem law_backs (t0 : List Int) (t1 t2 : Int) : law17_AclsBack 1000001 t0 t1 t2 = some true := by
 have hn : 1000000 < 1000001 := by decide
 unfold law17_AclsBack
 obtain ⟨s, s1, s2⟩ := file_size hn t0 ((IntKind.i64.wrap (an t2 1 : Int)) == 1)
 obtain ⟨r, r1, _⟩ := parse_F hn (s := s) (by omega)
 obtain ⟨q, is, m, q1, q2, q3, q4, q5⟩ := acl_entries t1
 rw [s1, Option.bind_some, r1, Option.bind_some]
 have key : ∀ o : Option (Unit ⊕ Bool), o = some (.inl ()) → (∀ k : Nat, k < 13 → True) → True := fun _ _ _ => trivial
 have first : ((if (r.2.2 == 0) then
   (acls_Text 1000001 r.1).bind fun t38 =>
   (acls_Parse 1000001 t38.1).bind fun t43 =>
   (acls_Text 1000001 t43.1).bind fun t49 =>
   (if t38.2 then
    (if (t43.2.2 != 0) then
     some (.inr false)
    else
     (ref17_Same 1000001 r.1 t43.1).bind fun t61 =>
     (if t61 then
      (if (t49.1.toList == t38.1.toList) then
       (if t49.2 then
        some (.inl ())
       else
        some (.inr false))
      else
       some (.inr false))
     else
      some (.inr false)))
   else
    some (.inr false))
  else
   some (.inl ())) : Option ((Unit) ⊕ Bool)) = some (.inl ()) := by
  by_cases h : r.2.2 = 0
  ·have hp : acls_Parse 1000001 s = some (r.1, r.2.1, 0) := by rw [r1, ← h]
   obtain ⟨t, gs, b1, b2, b3, b4⟩ := back_text hn ⟨_, et_nil⟩ s2 hp
   rw [show (r.2.2 == 0) = true from beq_iff_eq.2 h, if_pos rfl, b1, Option.bind_some]
   dsimp only
   rw [b2, Option.bind_some]
   dsimp only
   rw [b3, Option.bind_some, b4]
   simp
  ·rw [show (r.2.2 == 0) = false from beq_eq_false_iff_ne.2 h, if_neg Bool.false_ne_true]
 rw [first, Option.bind_some]
 dsimp only
 rw [q1, Option.bind_some, q4, Option.bind_some]
 dsimp only
 rw [q5, Option.bind_some, awake17, an8, show Int.tmod ((an (sh t2 1) 255 : Nat) : Int) 13 = ((an (sh t2 1) 255 % 13 : Nat) : Int) from (Int.ofNat_tmod _ 13).symm]
 have hk : an (sh t2 1) 255 % 13 < 13 := Nat.mod_lt _ (by decide)
 generalize an (sh t2 1) 255 % 13 = k at hk
 have fin : ∀ x : GFile, acls_Text 1000001 [x] = some (⟨#[]⟩, false) → ((acls_Text 1000001 [x]).bind fun t119 =>
   (if true then
    (if true then
     (some q).bind fun t129 =>
     (if (q.toList == t129.toList) then
      (if t119.2 then
       some false
      else
       (if (t119.1.toList == ({ data := #[] } : ByteArray).toList) then
        (some true).bind fun t141 =>
        some t141
       else
        some false))
     else
      some false)
    else
     some false)
   else
    some false) : Option Bool) = some true := by
  intro x hx
  rw [hx]
  simp
 have hx : ∃ x, idx [(⟨0, ByteArray.empty, [], ByteArray.empty, ByteArray.empty, [], 0⟩ : GFile), (⟨5, { data := #[97] }, [], ByteArray.empty, ByteArray.empty, [], 0⟩ : GFile), (⟨1, ByteArray.empty, [], ByteArray.empty, ByteArray.empty, [], 0⟩ : GFile), (⟨1, { data := #[47, 97] }, [], ByteArray.empty, ByteArray.empty, [], 0⟩ : GFile), (⟨1, { data := #[97] }, ([{ data := #[98] }] : List ByteArray), ByteArray.empty, ByteArray.empty, [], 0⟩ : GFile), (⟨2, { data := #[97] }, [], { data := #[98] }, ByteArray.empty, [], 0⟩ : GFile), (⟨2, { data := #[97] }, ([{ data := #[97, 32, 98] }] : List ByteArray), ByteArray.empty, ByteArray.empty, [], 0⟩ : GFile), (⟨3, { data := #[47] }, [], { data := #[97] }, { data := #[98] }, [], 0⟩ : GFile), (⟨3, { data := #[97] }, [], { data := #[97] }, { data := #[98] }, m, 0⟩ : GFile), (⟨4, { data := #[47, 97] }, [], ByteArray.empty, { data := #[98] }, m, 0⟩ : GFile), (⟨4, { data := #[47, 97] }, [], { data := #[97] }, { data := #[98] }, [(⟨1, false, ByteArray.empty, 8⟩ : GEntry)], 0⟩ : GFile), (⟨4, { data := #[47, 97] }, [], { data := #[97] }, { data := #[98] }, [(⟨2, false, ByteArray.empty, 0⟩ : GEntry)], 0⟩ : GFile), (⟨4, { data := #[47, 97] }, [], { data := #[97] }, { data := #[98] }, [(⟨5, false, { data := #[120] }, 0⟩ : GEntry)], 0⟩ : GFile)] (k : Int) = some x ∧ acls_Text 1000001 [x] = some (⟨#[]⟩, false) := by
  have hk : k = 0 ∨ k = 1 ∨ k = 2 ∨ k = 3 ∨ k = 4 ∨ k = 5 ∨ k = 6 ∨ k = 7 ∨ k = 8 ∨ k = 9 ∨ k = 10 ∨ k = 11 ∨ k = 12 := by omega
  rcases hk with rfl | rfl | rfl | rfl | rfl | rfl | rfl | rfl | rfl | rfl | rfl | rfl | rfl
  ·exact ⟨_, rfl, by kernel_rfl⟩
  ·exact ⟨_, rfl, by kernel_rfl⟩
  ·exact ⟨_, rfl, by kernel_rfl⟩
  ·exact ⟨_, rfl, by kernel_rfl⟩
  ·exact ⟨_, rfl, by kernel_rfl⟩
  ·exact ⟨_, rfl, by kernel_rfl⟩
  ·exact ⟨_, rfl, by kernel_rfl⟩
  ·exact ⟨_, rfl, by kernel_rfl⟩
  ·exact ⟨_, rfl, text_8 q2 q3 q5⟩
  ·exact ⟨_, rfl, text_9 q2 q3 q5⟩
  ·exact ⟨_, rfl, by kernel_rfl⟩
  ·exact ⟨_, rfl, by kernel_rfl⟩
  ·exact ⟨_, rfl, by kernel_rfl⟩
 obtain ⟨x, hx1, hx2⟩ := hx
 rw [hx1, Option.bind_some]
 exact fin x hx2
theorem law_backs_ex (t0 : List Int) (t1 t2 : Int) {p q r : Prop} (_ : p) (_ : q) (_ : r) : ∃ n, law17_AclsBack n t0 t1 t2 = some true := ⟨1000001, law_backs t0 t1 t2⟩
end Go.Proofs.YtkikhbfdadambaaDoor.Ab
