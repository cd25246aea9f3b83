/-
  tree.Has, walked by hand.
-/
import Derived.Test.YtjdliklpjmdicaaThc
import Derived.Deep.RegionHeld3
import Derived.Laws.EntriesVeiled
namespace Go.Proofs.Ytjdliklpjmdicaa.Tr
open Go.RowKit
set_option maxRecDepth 100000 in
set_option maxHeartbeats 2000000 in
theorem has_calls {w : World} {u : N6} {x : S3} {l : List N6} {qs : List Bool} {subs : List S3} (hs : SubsAt w u.subs subs) (hsl : subs.length ≤ 9223372036854775807) (hk : KidsAt w u.kids l) (hl : l.length ≤ 9223372036854775807) (hq : qs.length = l.length) (hsk : ∀ k (hk : k < l.length), isSl l[k].subs ∧ isSl l[k].kids) (hA : ∀ k (hk : k < l.length), HasAt w x l[k] (qs[k]'(by omega))) : Calls Try.prog 5 #[u.v, x.v] w fun e w' => e = .returned (.bool (hasK u.kind (decide (x ∈ subs)) qs)) ∧ Below w.heap.size w w' := by
  obtain ⟨K, u1, u2, u3, u4, u5⟩ := u
  have hv4 : isSl u4 := by
    rcases hs with ⟨_, a, c, h⟩ | ⟨b, o, c, h, _⟩
    · exact ⟨_, _, _, h⟩
    · exact ⟨_, _, _, h⟩
  have hv5 : isSl u5 := by
    rcases hk with ⟨_, a, c, h⟩ | ⟨b, o, c, h, _⟩
    · exact ⟨_, _, _, h⟩
    · exact ⟨_, _, _, h⟩
  obtain ⟨A4, n4, c4, rfl⟩ := hv4
  obtain ⟨A5, n5, c5, rfl⟩ := hv5
  obtain ⟨W, hW⟩ : ∃ W : World, W = ((w.alloc (.cells #[.int .i64 K, .string u1, .string u2, .string u3, .slice A4 n4 c4, .slice A5 n5 c5] 30)).alloc (.cells #[.string x.a, .string x.b, .string x.c] 32)).alloc (.cells #[.func (.func 8) #[] #[.pointer (some ⟨w.heap.size + 1, 0, none⟩)]] 38) := ⟨_, rfl⟩
  have hb0 : Below w.heap.size w W := by
    rw [hW]
    exact (((Below.refl _ w).alloc (Nat.le_refl _) _).alloc (by simp) _).alloc (by simp; omega) _
  have e0 : W.heap[w.heap.size]? = some (.cells #[.int .i64 K, .string u1, .string u2, .string u3, .slice A4 n4 c4, .slice A5 n5 c5] 30) := by
    rw [hW, Below.heap_alloc _ _ _ (by simp; omega), Below.heap_alloc _ _ _ (by simp), Go.Deep.blk_alloc_new]
  have e1 : W.heap[w.heap.size + 1]? = some (.cells #[.string x.a, .string x.b, .string x.c] 32) := by
    have := Go.Deep.blk_alloc_new (w.alloc (.cells #[.int .i64 K, .string u1, .string u2, .string u3, .slice A4 n4 c4, .slice A5 n5 c5] 30)) (.cells #[.string x.a, .string x.b, .string x.c] 32)
    rw [hW, Below.heap_alloc _ _ _ (by simp)]
    simpa using this
  have e2 : W.heap[w.heap.size + 1 + 1]? = some (.cells #[.func (.func 8) #[] #[.pointer (some ⟨w.heap.size + 1, 0, none⟩)]] 38) := by
    have := Go.Deep.blk_alloc_new ((w.alloc (.cells #[.int .i64 K, .string u1, .string u2, .string u3, .slice A4 n4 c4, .slice A5 n5 c5] 30)).alloc (.cells #[.string x.a, .string x.b, .string x.c] 32)) (.cells #[.func (.func 8) #[] #[.pointer (some ⟨w.heap.size + 1, 0, none⟩)]] 38)
    rw [hW]
    simpa using this
  have hIs : ∀ k (hk : k < l.length), Asks W 8 (.pointer (some ⟨w.heap.size + 1, 0, none⟩)) l[k] (qs[k]'(by omega)) := fun k hk => is_asks ((hA k hk).keep hb0) (hsk k hk) e1
  have hNo : ∀ k (hk : k < l.length), Asks W 11 (.pointer (some ⟨w.heap.size + 1 + 1, 0, none⟩)) l[k] (!(qs[k]'(by omega))) := fun k hk => not_asks (hIs k hk) (hsk k hk) e2
  have hcS := Lib.hid (contains_calls W (.slice A4 n4 c4) subs x (hs.keep hb0) hsl)
  have hcK := Lib.hid (containsF_calls1 W (.slice A5 n5 c5) _ l qs (hk.keep hb0) hq hl hIs hsk)
  have hKK : RowKit.Hid (∀ w2, Below W.heap.size W w2 → Calls Try.prog 10 #[.slice A5 n5 c5, .func (.func 8) #[] #[.pointer (some ⟨w.heap.size + 1, 0, none⟩)]] w2 fun e w' => e = .returned (.bool (qs.any id)) ∧ Below w2.heap.size w2 w') := Lib.hid fun w2 hb => containsF_calls1 w2 (.slice A5 n5 c5) _ l qs ((hk.keep hb0).keep hb) hq hl (fun k hk => (hIs k hk).keep hb) hsk
  have hNN : RowKit.Hid (Calls Try.prog 10 #[.slice A5 n5 c5, .func (.func 11) #[] #[.pointer (some ⟨w.heap.size + 1 + 1, 0, none⟩)]] W fun e w' => e = .returned (.bool ((qs.map (!·)).any id)) ∧ Below W.heap.size W w') := Lib.hid (containsF_calls2 W (.slice A5 n5 c5) _ l (qs.map (!·)) (hk.keep hb0) (by rw [List.length_map]; exact hq) hl (fun k hk => by rw [List.getElem_map]; exact hNo k hk) hsk)
  have lt0 := Lib.hid (Array.getElem?_eq_some_iff.1 e0).1
  have lt2 := Lib.hid (Array.getElem?_eq_some_iff.1 e2).1
  replace hb0 := Lib.hid hb0
  replace e0 := Lib.hid e0
  replace e1 := Lib.hid e1
  replace e2 := Lib.hid e2
  obtain ⟨xa, xb, xc⟩ := x
  obtain ⟨R, hR⟩ : ∃ R : Bool, RowKit.Hid (hasK K (decide ((⟨xa, xb, xc⟩ : S3) ∈ subs)) qs = R) := ⟨_, Lib.hid rfl⟩
  suffices hsuff : Calls Try.prog 5 #[.agg #[.int .i64 K, .string u1, .string u2, .string u3, .slice A4 n4 c4, .slice A5 n5 c5], .agg #[.string xa, .string xb, .string xc]] w (fun e w' => e = .returned (.bool R) ∧ Below w.heap.size w w') by
    rw [← hR.out] at hsuff
    exact hsuff
  show Calls Try.prog 5 #[.agg #[.int .i64 K, .string u1, .string u2, .string u3, .slice A4 n4 c4, .slice A5 n5 c5], .agg #[.string xa, .string xb, .string xc]] w _
  replace hW := Lib.hid hW
  go_enter Try.func5, Try.ntmps5
  go_upto_region 2 with (fail)
  rw [← hW.out]
  have g0 : W.cell? ⟨w.heap.size, 0, none⟩ = some (.int .i64 K) := Go.Joins.cell_of_block e0.out 0
  have g4 : W.cell? ⟨w.heap.size, 4, none⟩ = some (.slice A4 n4 c4) := Go.Joins.cell_of_block e0.out 4
  have g5 : W.cell? ⟨w.heap.size, 5, none⟩ = some (.slice A5 n5 c5) := Go.Joins.cell_of_block e0.out 5
  have h0 : W.cell? ⟨w.heap.size + 1, 0, none⟩ = some (.string xa) := Go.Joins.cell_of_block e1.out 0
  have h1 : W.cell? ⟨w.heap.size + 1, 1, none⟩ = some (.string xb) := Go.Joins.cell_of_block e1.out 1
  have h2 : W.cell? ⟨w.heap.size + 1, 2, none⟩ = some (.string xc) := Go.Joins.cell_of_block e1.out 2
  have i0 : W.cell? ⟨w.heap.size + 1 + 1, 0, none⟩ = some (.func (.func 8) #[] #[.pointer (some ⟨w.heap.size + 1, 0, none⟩)]) := Go.Joins.cell_of_block e2.out 0
  by_cases k1 : K = 1
  · subst k1
    clear hNo hIs hA hsk hq
    have hz : R = (decide ((⟨xa, xb, xc⟩ : S3) ∈ subs) || qs.any id) := by rw [← hR.out]; rfl
    clear hR
    generalize decide ((⟨xa, xb, xc⟩ : S3) ∈ subs) = z at *
    replace hz := Lib.hid hz
    go_wp2_with (go_at_fn 9)
    refine Calls.mono hcS.out ?_
    rintro e w2 ⟨rfl, hb⟩
    cases z with
    | true =>
      replace hb := Lib.hid hb
      go_wp2
      go_ret
      exact ⟨by rw [hz.out]; rfl, hb0.out.trans (hb.out.mono hb0.out.size)⟩
    | false =>
      have g5' := (hb.cell (p := ⟨w.heap.size, 5, none⟩) lt0.out).trans g5
      have i0' := (hb.cell (p := ⟨w.heap.size + 1 + 1, 0, none⟩) lt2.out).trans i0
      have hcK2 := Lib.hid (hKK.out w2 hb)
      replace hb := Lib.hid hb
      go_wp2_with (go_at_fn 10)
      refine Calls.mono hcK2.out ?_
      rintro e w3 ⟨rfl, hb3⟩
      replace hb3 := Lib.hid hb3
      go_wp2
      go_ret
      exact ⟨by rw [hz.out]; rfl, (hb0.out.trans (hb.out.mono hb0.out.size)).trans (hb3.out.mono (hb0.out.trans (hb.out.mono hb0.out.size)).size)⟩
  by_cases k2 : K = 2 ∨ K = 3
  · have hz : R = qs.any id := by
      rw [← hR.out]
      unfold hasK
      rw [if_neg k1, if_pos k2]
    replace hz := Lib.hid hz
    clear hcS hR
    rcases k2 with k2 | k2
    · replace k2 : K = 2 := k2
      subst k2
      go_wp2_with (go_at_fn 10)
      refine Calls.mono hcK.out ?_
      rintro e w3 ⟨rfl, hb3⟩
      replace hb3 := Lib.hid hb3
      go_wp2
      go_ret
      exact ⟨by rw [hz.out]; rfl, hb0.out.trans (hb3.out.mono hb0.out.size)⟩
    · subst k2
      go_wp2_with (go_at_fn 10)
      refine Calls.mono hcK.out ?_
      rintro e w3 ⟨rfl, hb3⟩
      replace hb3 := Lib.hid hb3
      go_wp2
      go_ret
      exact ⟨by rw [hz.out]; rfl, hb0.out.trans (hb3.out.mono hb0.out.size)⟩
  by_cases k4 : K = 4
  · subst k4
    by_cases h0l : l = []
    · have n0 : n5 = 0 := by
        rcases hk with ⟨_, a, c, h⟩ | ⟨b, o, c, h, _⟩
        · cases h; rfl
        · cases h; rw [h0l]; rfl
      have q0 : qs = [] := by rw [h0l] at hq; exact List.length_eq_zero_iff.1 hq
      subst q0
      subst n0
      have hz : R = false := by rw [← hR.out]; rfl
      replace hz := Lib.hid hz
      clear hcS hcK hKK hR
      go_wp2
      go_ret
      exact ⟨by rw [hz.out]; rfl, hb0.out⟩
    · have n0 : 0 < n5 := by
        rcases hk with ⟨h, _⟩ | ⟨b, o, c, h, _⟩
        · exact absurd h h0l
        · cases h; exact List.length_pos_iff.2 h0l
      have hz : R = !((qs.map (!·)).any id) := by
        rw [← hR.out]
        have : qs.isEmpty = false := by
          cases qs with
          | nil => exact absurd (List.length_eq_zero_iff.1 hq.symm) h0l
          | cons _ _ => rfl
        unfold hasK
        rw [if_neg (by decide), if_neg (by decide), if_pos rfl, this]
        simp [List.all_eq_not_any_not]
      have n1 : (0 : Int) < n5 := by omega
      clear hcS hcK hKK hR
      have hcN := Lib.hid hNN.out
      generalize (qs.map (!·)).any id = z at *
      replace hz := Lib.hid hz
      go_wp2_with (go_at_fn 10)
      refine Calls.mono hcN.out ?_
      rintro e w3 ⟨rfl, hb3⟩
      replace hb3 := Lib.hid hb3
      go_wp2
      go_ret
      exact ⟨by rw [hz.out]; rfl, hb0.out.trans (hb3.out.mono hb0.out.size)⟩
  by_cases k5 : K = 5
  · subst k5
    clear hcS hcK hKK hNN hNo
    by_cases h2l : l.length = 2
    · obtain ⟨⟨y0, y1, y2, y3, y4, y5⟩, ⟨z0, z1, z2, z3, z4, z5⟩, rfl⟩ : ∃ y z, l = [y, z] := by
        match l, h2l with
        | [y, z], _ => exact ⟨y, z, rfl⟩
      obtain ⟨q1, q2, rfl⟩ : ∃ q1 q2, qs = [q1, q2] := by
        match qs, hq with
        | [q1, q2], _ => exact ⟨q1, q2, rfl⟩
      have hz : R = (q1 && !q2) := by rw [← hR.out]; rfl
      rcases hk with ⟨h, _⟩ | ⟨b, o, c, h, hrow⟩
      · cases h
      obtain ⟨rfl, rfl, rfl⟩ : A5 = some ⟨b, o, none⟩ ∧ n5 = 2 ∧ c5 = c := by cases h; exact ⟨rfl, rfl, rfl⟩
      clear h
      have sk0 := hsk 0 (show 0 < 2 by decide)
      have sk1 := hsk 1 (show 1 < 2 by decide)
      obtain ⟨⟨y4A, y4n, y4c, e4⟩, ⟨y5A, y5n, y5c, e5⟩⟩ := sk0
      have e4 : y4 = _ := e4
      have e5 : y5 = _ := e5
      subst e4
      subst e5
      obtain ⟨⟨z4A, z4n, z4c, e4⟩, ⟨z5A, z5n, z5c, e5⟩⟩ := sk1
      have e4 : z4 = _ := e4
      have e5 : z5 = _ := e5
      subst e4
      subst e5
      have hSS : RowKit.Hid (∀ w' : World, Below W.heap.size W w' → (w'.cell? ⟨b, o, none⟩ = some (.int .i64 y0) ∧ w'.cell? ⟨b, o + 1, none⟩ = some (.string y1) ∧ w'.cell? ⟨b, o + 2, none⟩ = some (.string y2) ∧ w'.cell? ⟨b, o + 3, none⟩ = some (.string y3) ∧ w'.cell? ⟨b, o + 4, none⟩ = some (.slice y4A y4n y4c) ∧ w'.cell? ⟨b, o + 5, none⟩ = some (.slice y5A y5n y5c) ∧ w'.cell? ⟨b, o + 6, none⟩ = some (.int .i64 z0) ∧ w'.cell? ⟨b, o + 7, none⟩ = some (.string z1) ∧ w'.cell? ⟨b, o + 8, none⟩ = some (.string z2) ∧ w'.cell? ⟨b, o + 9, none⟩ = some (.string z3) ∧ w'.cell? ⟨b, o + 10, none⟩ = some (.slice z4A z4n z4c) ∧ w'.cell? ⟨b, o + 11, none⟩ = some (.slice z5A z5n z5c) ∧ w'.cell? ⟨w.heap.size, 5, none⟩ = some (.slice (some ⟨b, o, none⟩) 2 c5) ∧ w'.cell? ⟨w.heap.size + 1 + 1, 0, none⟩ = some (.func (.func 8) #[] #[.pointer (some ⟨w.heap.size + 1, 0, none⟩)])) ∧ Below W.heap.size W w') := Lib.hid fun w' hw' => ⟨by
        have r := (hrow.keep hb0.out).keep hw'
        have a0 := r.at0 0 (show 0 < 2 by decide)
        have a1 := r.at1 0 (show 0 < 2 by decide)
        have a2 := r.at2 0 (show 0 < 2 by decide)
        have a3 := r.at3 0 (show 0 < 2 by decide)
        have a4 := r.at4 0 (show 0 < 2 by decide)
        have a5 := r.at5 0 (show 0 < 2 by decide)
        have b0 := r.at0 1 (show 1 < 2 by decide)
        have b1 := r.at1 1 (show 1 < 2 by decide)
        have b2 := r.at2 1 (show 1 < 2 by decide)
        have b3 := r.at3 1 (show 1 < 2 by decide)
        have b4 := r.at4 1 (show 1 < 2 by decide)
        have b5 := r.at5 1 (show 1 < 2 by decide)
        simp only [Nat.zero_mul, Nat.one_mul, Nat.add_zero, Nat.add_assoc] at a0 a1 a2 a3 a4 a5 b0 b1 b2 b3 b4 b5
        exact ⟨a0, a1, a2, a3, a4, a5, b0, b1, b2, b3, b4, b5, (hw'.cell (p := ⟨w.heap.size, 5, none⟩) lt0.out).trans g5, (hw'.cell (p := ⟨w.heap.size + 1 + 1, 0, none⟩) lt2.out).trans i0⟩, hw'⟩
      have lts : b < W.heap.size := Nat.lt_of_lt_of_le hrow.lt hb0.out.size
      have hA0 := Lib.hid (hIs 0 (show 0 < 2 by decide))
      have hA1 := Lib.hid (hIs 1 (show 1 < 2 by decide))
      clear hrow hIs hA hsk hR
      replace hz := Lib.hid hz
      have hA0 : RowKit.Hid (∀ w1, Below W.heap.size W w1 → Calls Try.prog 8 #[.agg #[.int .i64 y0, .string y1, .string y2, .string y3, .slice y4A y4n y4c, .slice y5A y5n y5c], .pointer (some ⟨w.heap.size + 1, 0, none⟩)] w1 fun e w' => e = .returned (.bool q1) ∧ Below w1.heap.size w1 w') := hA0
      have hA1 : RowKit.Hid (∀ w1, Below W.heap.size W w1 → Calls Try.prog 8 #[.agg #[.int .i64 z0, .string z1, .string z2, .string z3, .slice z4A z4n z4c, .slice z5A z5n z5c], .pointer (some ⟨w.heap.size + 1, 0, none⟩)] w1 fun e w' => e = .returned (.bool q2) ∧ Below w1.heap.size w1 w') := hA1
      cases q1 <;> cases q2
      all_goals go_upto_region 11 with (fail)
      all_goals first | (go_region_held3 (fun w' => (w'.cell? ⟨b, o, none⟩ = some (.int .i64 y0) ∧ w'.cell? ⟨b, o + 1, none⟩ = some (.string y1) ∧ w'.cell? ⟨b, o + 2, none⟩ = some (.string y2) ∧ w'.cell? ⟨b, o + 3, none⟩ = some (.string y3) ∧ w'.cell? ⟨b, o + 4, none⟩ = some (.slice y4A y4n y4c) ∧ w'.cell? ⟨b, o + 5, none⟩ = some (.slice y5A y5n y5c) ∧ w'.cell? ⟨b, o + 6, none⟩ = some (.int .i64 z0) ∧ w'.cell? ⟨b, o + 7, none⟩ = some (.string z1) ∧ w'.cell? ⟨b, o + 8, none⟩ = some (.string z2) ∧ w'.cell? ⟨b, o + 9, none⟩ = some (.string z3) ∧ w'.cell? ⟨b, o + 10, none⟩ = some (.slice z4A z4n z4c) ∧ w'.cell? ⟨b, o + 11, none⟩ = some (.slice z5A z5n z5c) ∧ w'.cell? ⟨w.heap.size, 5, none⟩ = some (.slice (some ⟨b, o, none⟩) 2 c5) ∧ w'.cell? ⟨w.heap.size + 1 + 1, 0, none⟩ = some (.func (.func 8) #[] #[.pointer (some ⟨w.heap.size + 1, 0, none⟩)])) ∧ Below W.heap.size W w')
        (first | (exact hSS.out _ ((Below.refl _ _).drew)) | (exact hSS.out _ (by assumption)) | go_keep)
        (first | (go_at_call 8; go_split_ands; refine Calls.mono (hA0.out _ ?_) ?_; (focus assumption); rintro e w2 ⟨rfl, hb⟩; have hbW := Below.trans ‹Below W.heap.size W _› (Below.mono hb (Below.size ‹Below W.heap.size W _›))) | (go_at_call 8; go_split_ands; refine Calls.mono (hA1.out _ ?_) ?_; (focus assumption); rintro e w2 ⟨rfl, hb⟩; have hbW := Below.trans ‹Below W.heap.size W _› (Below.mono hb (Below.size ‹Below W.heap.size W _›))))) | fail
      all_goals go_wp2
      all_goals go_ret
      all_goals exact ⟨by rw [hz.out]; rfl, hb0.out.trans (hbW.mono hb0.out.size)⟩
    · have hz : R = false := by
        rw [← hR.out]
        have : qs.length ≠ 2 := by rw [hq]; exact h2l
        unfold hasK
        rw [if_neg (by decide), if_neg (by decide), if_neg (by decide), if_pos rfl]
        match qs, this with
        | [], _ => rfl
        | [_], _ => rfl
        | _ :: _ :: _ :: _, _ => rfl
        | [_, _], h => exact absurd rfl h
      have n2 : ¬ (n5 : Int) = 2 := by
        rcases hk with ⟨h, h'⟩ | ⟨b, o, c, h, _⟩
        · obtain ⟨a, c, h'⟩ := h'; cases h'; decide
        · cases h; omega
      replace hz := Lib.hid hz
      have n3 : ((n5 : Int) == 2) = false := beq_eq_false_iff_ne.2 n2
      clear hIs hA hsk hR hk
      go_upto_region 11 with (fail)
      first | (go_region_held3 (fun w' => w'.cell? ⟨w.heap.size, 5, none⟩ = some (.slice A5 n5 c5)) (go_keep) (fail)) | fail
      all_goals go_wp2
      all_goals go_ret
      all_goals exact ⟨by rw [hz.out]; rfl, hb0.out.drew⟩
  · have hz : R = false := by
      rw [← hR.out]
      unfold hasK
      rw [if_neg k1, if_neg k2, if_neg k4, if_neg k5]
    replace hz := Lib.hid hz
    have j2 : ¬ K = 2 := fun h => k2 (.inl h)
    have j3 : ¬ K = 3 := fun h => k2 (.inr h)
    clear hcS hcK k2 hR
    go_wp2
    go_ret
    exact ⟨by rw [hz.out]; rfl, hb0.out⟩
end Go.Proofs.Ytjdliklpjmdicaa.Tr
