/-
  rows.without: a rising list without another one.
-/
import Derived.Test.YtdckfddlcmkdlaaRowsOf
namespace Go.Proofs.Ytdckfddlcmkdlaa
open Go.RowKit
namespace Wout
open Cmp TO Rd

/-! ### The plain part -/
/-- All that was passed over is below all that is to come. -/
def Adv (xs ys : List Tp) (k j : Nat) : Prop := ∀ i, i < j → ∀ l, k ≤ l → l < xs.length → ltB ys[i]! xs[l]! = true
theorem Adv.zero (xs ys : List Tp) (k : Nat) : Adv xs ys k 0 := fun i hi => by omega
theorem rises_get {xs : List Tp} (h : Rises xs) {i j : Nat} (hij : i < j) (hj : j < xs.length) : ltB xs[i]! xs[j]! = true := by
  have := List.pairwise_iff_getElem.1 h i j (by omega) hj hij
  rw [getElem!_pos _ i (by omega), getElem!_pos _ j hj]
  exact this
theorem Adv.step {xs ys : List Tp} (hx : Rises xs) {k j : Nat} (h : Adv xs ys k j) (hk : k < xs.length) (hlt : ltB ys[j]! xs[k]! = true) : Adv xs ys k (j + 1) := by
  intro i hi l hl hl2
  by_cases e : i = j
  · subst e
    by_cases e2 : l = k
    · subst e2; exact hlt
    · exact lt_trans hlt (rises_get hx (by omega) hl2)
  · exact h i (by omega) l hl hl2
theorem Adv.next {xs ys : List Tp} {k j : Nat} (h : Adv xs ys k j) : Adv xs ys (k + 1) j := fun i hi l hl hl2 => h i hi l (by omega) hl2
/-- Where the inner loop has stopped it is clear whether the one at hand is in the other list. -/
theorem Adv.mem {xs ys : List Tp} (hy : Rises ys) {k j : Nat} (h : Adv xs ys k j) (hk : k < xs.length) (hj : j ≤ ys.length) (hstop : j < ys.length → ltB ys[j]! xs[k]! = false) : xs[k]! ∈ ys ↔ j < ys.length ∧ ys[j]! = xs[k]! := by
  constructor
  · intro hm
    obtain ⟨i, hi, e⟩ := List.mem_iff_getElem.1 hm
    have e' : ys[i]! = xs[k]! := by rw [getElem!_pos _ i hi]; exact e
    have hij : ¬ i < j := fun hij => by
      have := h i hij k (Nat.le_refl _) hk
      rw [e', lt_irrefl] at this
      cases this
    have hjl : j < ys.length := by omega
    refine ⟨hjl, ?_⟩
    by_cases e2 : i = j
    · subst e2; exact e'
    · have h1 := rises_get hy (show j < i by omega) hi
      rw [e', hstop hjl] at h1
      cases h1
  · rintro ⟨hjl, e⟩
    rw [← e, getElem!_pos _ j hjl]
    exact List.getElem_mem hjl
theorem sub_snoc (xs ys : List Tp) (k : Nat) (hk : k < xs.length) : sub (xs.take (k + 1)) ys = sub (xs.take k) ys ++ if xs[k]! ∈ ys then [] else [xs[k]!] := by
  rw [Cpt.take_snoc hk]
  unfold sub
  rw [List.filter_append]
  congr 1
  by_cases h : xs[k]! ∈ ys
  · rw [if_pos h, List.filter_cons, if_neg (by simpa using h)]
    rfl
  · rw [if_neg h, List.filter_cons, if_pos (by simpa using h)]
    rfl

def woutS (b o m' d' : Nat) (x y : Tp) : List Fr.Sp := [
  ⟨[], [1], fun _ v _ => v = .slice (some ⟨b, o, none⟩) m' d'⟩,
  ⟨[0], [], fun _ v _ => v = .int .i64 m'⟩,
  ⟨[1], [], fun _ v _ => v = .bool true⟩,
  ⟨[2], [], fun _ v _ => v = .bool true⟩,
  ⟨[3], [1], fun _ v _ => v = .slice (some ⟨b, o, none⟩) m' d'⟩,
  ⟨[4, 3], [], fun _ v _ => v = .pointer (some ⟨b, o, none⟩)⟩,
  ⟨[5, 3], [], fun _ v _ => v = y.val⟩,
  ⟨[3], [7], fun _ v _ => v = x.val⟩,
  ⟨[6, 7, 3], [], fun _ v _ => v = .bool (ltB y x)⟩,
  ⟨[3, 8], [], fun _ v _ => v = .bool (ltB y x)⟩]
def woutD : List (Option Nat) := [some 14, some 15, some 16, some 17, some 18, some 19, some 20, some 21, some 22, some 23]
theorem woutSt (b o m' d' : Nat) (x y : Tp) : Fr.Stables (woutS b o m' d' x y) :=
  ⟨fun _ _ _ _ _ h => h, fun _ _ _ _ _ h => h, fun _ _ _ _ _ h => h, fun _ _ _ _ _ h => h, fun _ _ _ _ _ h => h, fun _ _ _ _ _ h => h, fun _ _ _ _ _ h => h, fun _ _ _ _ _ h => h, fun _ _ _ _ _ h => h, fun _ _ _ _ _ h => h, trivial⟩

set_option maxRecDepth 100000 in
set_option maxHeartbeats 4000000 in
theorem without_any (A B : Option Addr) (n c m d : Nat) (xs ys : List Tp) (w : World) (hxs : At w A n c xs) (hys : At w B m d ys) (rx : Rises xs) (ry : Rises ys) (hn : n ≤ 1000000000) :
    Calls Try.prog 59 #[.slice A n c, .slice B m d] w fun e w' => ∃ A' n' c', e = .returned (.slice A' n' c') ∧ At w' A' n' c' (sub xs ys) ∧ Below w.heap.size w w' := by
  have heq := TEq.eql
  have hneq := TEq.neq
  simp only [Tp.val] at heq hneq
  obtain ⟨i0, hi0, hz0, hz1, hz2⟩ := info_parts Of.infoTp
  have HX := Lib.hid hxs
  have RX := Lib.hid rx
  have RY := Lib.hid ry
  have hm := hys.cap
  have hm2 := hys.max
  have hys0 : At w B m d (ys.drop 0) := by simpa using hys
  have HY0 := Lib.hid hys0
  have HL := Lib.hid hys.len
  have HXL := Lib.hid hxs.len
  have hnc := hxs.cap
  clear hys0 hxs rx ry hys
  go_enter Try.func59, Try.ntmps59
  go_wp2
  go_loopg [1, 5, 7, 10] n (fun gh s1 s5 _s7 s10 wr => ∃ (k j m' d' : Nat) (B' A5 : Option Addr) (n5 c5 : Nat), s10 = .int .i64 k ∧ k ≤ n ∧ n - k ≤ gh ∧ s1 = .slice B' m' d' ∧ j + m' = m ∧ Hid (At w B' m' d' (ys.drop j)) ∧
    s5 = .slice A5 n5 c5 ∧ n5 ≤ k ∧ Hid (wr.ownsRow w.heap.size 41 6 (.slice A5 n5 c5) n5 (flat (sub (xs.take k) ys))) ∧ Below w.heap.size w wr ∧ Hid (Adv xs ys k j))
  case atStart => exact ⟨0, 0, m, d, B, none, 0, 0, rfl, by omega, by omega, rfl, by omega, HY0, rfl, by omega, Lib.hid ⟨by simp [sub, flat], .inl ⟨rfl, rfl⟩⟩, Below.refl _ _, Lib.hid (Adv.zero _ _ _)⟩
  case round =>
    obtain ⟨k, j, m', d', B', A5, n5, c5, rfl, hk, hg, rfl, hjm, HB, rfl, hn5, HO, hbel, HAdv⟩ := hrel
    by_cases hlt : k < n
    · obtain ⟨bx, ox, x, hA, hbx, hxk, hcx⟩ := HX.out.get hlt
      subst hA
      have hkl : k < xs.length := by rw [HX.out.len]; exact hlt
      have hxe : xs[k]! = x := by rw [getElem!_pos _ k hkl]; rw [List.getElem?_eq_getElem hkl] at hxk; exact Option.some.inj hxk
      obtain ⟨a0, a1, a2, a3, a4, a5⟩ := (hcx.keep fun i => hbel.cell (p := ⟨bx, i, none⟩) hbx).cells
      have HXE := Lib.hid hxe
      clear hxk hcx hxe
      obtain ⟨wo, rfl⟩ : ∃ wo : World, wo = wr := ⟨_, rfl⟩
      go_wp2
      clear a0 a1 a2 a3 a4 a5
      have hbk0 : Mm.Bk (wo.alloc (.cells x.enc.toArray 41)) wo.heap.size 41 x.enc := Mm.Bk.new wo _ _
      have HBK0 := Lib.hid hbk0
      clear hbk0
      go_loopg [1] m (fun gh s1 wi => ∃ (j m' d' : Nat) (B' : Option Addr), m' ≤ gh ∧ s1 = .slice B' m' d' ∧ j + m' = m ∧ m' ≤ d' ∧ Hid (At w B' m' d' (ys.drop j)) ∧ Below (wo.heap.size + 1) (wo.alloc (.cells x.enc.toArray 41)) wi ∧ Hid (Adv xs ys k j))
      case atStart => exact ⟨j, m', d', B', by omega, rfl, hjm, HB.out.cap, HB, Below.refl _ _, HAdv⟩
      case round =>
        clear HB HAdv hjm
        obtain ⟨j, m', d', B', hg2, rfl, hjm, hmd, HB, hbi, HAdv⟩ := hrel
        have hbkx : Mm.Bk wr wo.heap.size 41 x.enc := HBK0.out.below hbi (by omega)
        have HXB := Lib.hid hbkx
        have hb7 := hbkx.lt
        have hbw : Below w.heap.size w wr := (hbel.alloc hbel.size _).trans (hbi.mono (by have := hbel.size; omega))
        have hszi := hbw.size
        clear hbkx
        by_cases hm' : 0 < m'
        · obtain ⟨b, o, y, hB', hby, hyk, hcy⟩ := HB.out.get hm'
          subst hB'
          have hcy1 : Cs wr b o y := by
            have := hcy.keep fun i => hbw.cell (p := ⟨b, i, none⟩) hby
            simpa using this
          have HYC := Lib.hid hcy1
          have hbl : b < wr.heap.size := by omega
          clear hcy hcy1
          go_wp2_with fail
          refine Fr.wp_region_free (by kernel_rfl) (woutS b o m' d' x y) woutD (by kernel_rfl) (by kernel_rfl) (woutSt _ _ _ _ _ _) ?_ ?_
          refine ⟨?_, ?_, ?_, ?_, ?_, ?_, ?_, ?_, ?_, ?_, trivial⟩
          · -- 0: Op.move t1
            intro f a w K hE hA hO hF hK
            have o1 : a.tmps[1]? = some (_) := (hO 1 (by simp)).trans rfl
            clear hA hO hF
            go_simp; exact hK _ _ (Below.refl _ _) (by first | trivial | rfl)
          · -- 1: Op.call { builtin len, args := #[t14], argTypes := #[23] }
            intro f a w K hE hA hO hF hK
            have e14 : a.tmps[14]? = some (f 0) := hA 0 (by simp) 14 rfl
            have h0 : (f 0) = .slice (some ⟨b, o, none⟩) m' d' := hF.1
            clear hA hO hF
            go_simp; exact hK _ _ (Below.refl _ _) (by first | trivial | rfl)
          · -- 2: Op.binOp BinOp.gtr 3 t15 (const (0:i64)) 3
            intro f a w K hE hA hO hF hK
            have e15 : a.tmps[15]? = some (f 1) := hA 1 (by simp) 15 rfl
            have h1 : (f 1) = .int .i64 m' := hF.1
            clear hA hO hF
            go_simp; exact hK _ _ (Below.refl _ _) (by first | trivial | rfl)
          · -- 3: Op.move t16
            intro f a w K hE hA hO hF hK
            have e16 : a.tmps[16]? = some (f 2) := hA 2 (by simp) 16 rfl
            have h2 : (f 2) = .bool true := hF.1
            clear hA hO hF
            go_simp; exact hK _ _ (Below.refl _ _) (by first | trivial | rfl)
          · -- 4: Op.move t1
            intro f a w K hE hA hO hF hK
            have e17 : a.tmps[17]? = some (f 3) := hA 3 (by simp) 17 rfl
            have o1 : a.tmps[1]? = some (_) := (hO 1 (by simp)).trans rfl
            have h3 : (f 3) = .bool true := hF.1
            clear hA hO hF
            go_simp; exact hK _ _ (Below.refl _ _) (by first | trivial | rfl)
          · -- 5: Op.indexAddr 23 t18 (const (0:i64))
            intro f a w K hE hA hO hF hK
            have e18 : a.tmps[18]? = some (f 4) := hA 4 (by simp) 18 rfl
            have e17 : a.tmps[17]? = some (f 3) := hA 3 (by simp) 17 rfl
            have h4 : (f 4) = .slice (some ⟨b, o, none⟩) m' d' := hF.1
            have h3 : (f 3) = .bool true := hF.2.1
            clear hA hO hF
            go_simp; exact hK _ _ (Below.refl _ _) (by first | trivial | rfl)
          · -- 6: Op.load 41 t19
            intro f a w K hE hA hO hF hK
            have e19 : a.tmps[19]? = some (f 5) := hA 5 (by simp) 19 rfl
            have e17 : a.tmps[17]? = some (f 3) := hA 3 (by simp) 17 rfl
            have h5 : (f 5) = .pointer (some ⟨b, o, none⟩) := hF.1
            have h3 : (f 3) = .bool true := hF.2.1
            clear hA hO hF
            obtain ⟨q0, q1, q2, q3, q4, q5⟩ := (HYC.out.keep fun i => hE.cell (p := ⟨b, i, none⟩) hbl).cells
            go_simp
            exact hK _ _ (Below.refl _ _) rfl
          · -- 7: Op.load 41 t7
            intro f a w K hE hA hO hF hK
            have e17 : a.tmps[17]? = some (f 3) := hA 3 (by simp) 17 rfl
            have o7 : a.tmps[7]? = some (_) := (hO 7 (by simp)).trans rfl
            have h3 : (f 3) = .bool true := hF.1
            clear hA hO hF
            obtain ⟨q0, q1, q2, q3, q4, q5⟩ := Tp.cells (HXB.out.below hE hb7)
            go_simp
            exact hK _ _ (Below.refl _ _) rfl
          · -- 8: Op.call { value (Operand.func 60), args := #[t20, t21], argTypes := #[41, 41] }
            intro f a w K hE hA hO hF hK
            have e20 : a.tmps[20]? = some (f 6) := hA 6 (by simp) 20 rfl
            have e21 : a.tmps[21]? = some (f 7) := hA 7 (by simp) 21 rfl
            have e17 : a.tmps[17]? = some (f 3) := hA 3 (by simp) 17 rfl
            have h6 : (f 6) = y.val := hF.1
            have h7 : (f 7) = x.val := hF.2.1
            have h3 : (f 3) = .bool true := hF.2.2.1
            clear hA hO hF
            rw [Tp.val] at h6 h7
            go_simp
            refine (less_any y x _).mono ?_
            rintro e w2 ⟨rfl, hb⟩
            exact ⟨_, rfl, hK _ _ hb rfl⟩
          · -- 9: Op.pick t17 t22 (const (Value.bool false))
            intro f a w K hE hA hO hF hK
            have e17 : a.tmps[17]? = some (f 3) := hA 3 (by simp) 17 rfl
            have e22 : a.tmps[22]? = some (f 8) := hA 8 (by simp) 22 rfl
            have h3 : (f 3) = .bool true := hF.1
            have h8 : (f 8) = .bool (ltB y x) := hF.2.1
            clear hA hO hF
            go_simp; exact hK _ _ (Below.refl _ _) (by first | trivial | rfl)
          intro f w1 hE hF
          have g0 : (f 0) = .slice (some ⟨b, o, none⟩) m' d' := hF.1
          have g1 : (f 1) = .int .i64 m' := hF.2.1
          have g2 : (f 2) = .bool true := hF.2.2.1
          have g3 : (f 3) = .bool true := hF.2.2.2.1
          have g4 : (f 4) = .slice (some ⟨b, o, none⟩) m' d' := hF.2.2.2.2.1
          have g5 : (f 5) = .pointer (some ⟨b, o, none⟩) := hF.2.2.2.2.2.1
          have g6 : (f 6) = y.val := hF.2.2.2.2.2.2.1
          have g7 : (f 7) = x.val := hF.2.2.2.2.2.2.2.1
          have g8 : (f 8) = .bool (ltB y x) := hF.2.2.2.2.2.2.2.2.1
          have g9 : (f 9) = .bool (ltB y x) := hF.2.2.2.2.2.2.2.2.2.1
          simp only [woutD, Fr.puts, Act.put, List.setIfInBounds_toArray, List.set_cons_zero, List.set_cons_succ]
          clear hF
          simp only [woutS, List.length_cons, List.length_nil, Nat.reduceAdd, List.drop_succ_cons, List.drop_zero]
          rw [g9]
          clear g0 g1 g2 g3 g4 g5 g6 g7 g8 g9
          have hby2 : b < w.heap.size := hby
          have hyj : ys[j]! = y := by
            rw [List.getElem?_drop, Nat.add_zero] at hyk
            have hl := (List.getElem?_eq_some_iff.1 hyk).1
            rw [getElem!_pos _ j hl]
            rw [List.getElem?_eq_getElem hl] at hyk
            exact Option.some.inj hyk
          have HYJ := Lib.hid hyj
          clear hyk hyj
          have hE2 : Below (wo.heap.size + 1) (wo.alloc (.cells x.enc.toArray 41)) w1 := hbi.trans (hE.mono (by omega))
          cases hcmp : ltB y x with
          | true =>
            have HCM := Lib.hid hcmp
            clear hcmp
            have hnext := HB.out.drop (show 1 ≤ m' by omega)
            rw [List.drop_drop] at hnext
            have HAN := Lib.hid (HAdv.out.step RX.out (by rw [HXL.out]; exact hlt) (by rw [HYJ.out, HXE.out]; exact HCM.out))
            by_cases hd1 : d' = 1
            · obtain rfl : m' = 1 := by omega
              subst hd1
              simp only [if_true, Nat.sub_self] at hnext
              have HNX := Lib.hid hnext
              clear hnext
              go_wp2
              go_roundg 0
              case measure => omega
              case rel => exact ⟨j + 1, 0, 0, _, by omega, rfl, by omega, by omega, HNX.out, hE2, HAN⟩
            · rw [if_neg hd1] at hnext
              simp only [Option.map_some, Nat.one_mul, Addr.add] at hnext
              rw [if_neg (by omega)] at hnext
              have HNX := Lib.hid hnext
              clear hnext
              go_wp2
              go_roundg (m' - 1)
              case measure => omega
              case rel => exact ⟨j + 1, m' - 1, d' - 1, _, by omega, rfl, by omega, by omega, HNX.out, hE2, HAN⟩
          | false =>
            have hmem := HAdv.out.mem RY.out (by rw [HXL.out]; exact hlt) (by rw [HL.out]; omega) (fun _ => by rw [HYJ.out, HXE.out]; exact hcmp)
            rw [HYJ.out, HXE.out, HL.out] at hmem
            have HME := Lib.hid hmem
            have HCM := Lib.hid hcmp
            clear hcmp hmem
            have hm0 : ((m' : Int) == 0) = false := by simp; omega
            have hm1 : (0 : Int) < m' := by omega
            have hbw0 : Below w.heap.size w w1 := hbw.trans (hE.mono hszi)
            have HXB0 := Lib.hid (HXB.out.below hE hb7)
            have HYC0 := Lib.hid (HYC.out.keep fun i => hE.cell (p := ⟨b, i, none⟩) hbl)
            have HOWN0 := Lib.hid (Own.ext_own HO.out (((Below.refl _ wo).alloc (Nat.le_refl _) _).trans (hE2.mono (by omega))))
            obtain ⟨p0, p1, p2, p3, p4, p5⟩ := Tp.cells HXB0.out
            obtain ⟨r0, r1, r2, r3, r4, r5⟩ := HYC0.out.cells
            clear hE hE2 hbi
            by_cases hyx : y = x
            · have hd : decide (y = x) = true := by simpa using hyx
              have HIN := Lib.hid (HME.out.2 ⟨by omega, hyx⟩)
              clear hyx
              go_wp2_with fail
              go_quiet (fail)
              clear p0 p1 p2 p3 p4 p5 r0 r1 r2 r3 r4 r5
              go_wp2
              go_roundg (n - (k + 1))
              case measure => omega
              case rel => exact ⟨k + 1, j, m', d', _, A5, n5, c5, by go_num, by omega, Nat.le_refl _, rfl, by omega, HB, rfl, by omega, Lib.hid (by rw [sub_snoc xs ys k (by rw [HXL.out]; exact hlt), if_pos (by rw [HXE.out]; exact HIN.out), List.append_nil]; exact Own.drewN HOWN0.out _), below_drewN hbw0 _, Lib.hid HAdv.out.next⟩
            · have hd : decide (y = x) = false := by simpa using hyx
              have HNM := Lib.hid (fun h => hyx (HME.out.1 h).2)
              clear hyx
              go_wp2_with fail
              go_quiet (fail)
              clear r0 r1 r2 r3 r4 r5
              go_wp2_with (at_builtin; refine wpList_append_own _ rfl _ _ 23 rfl w.heap.size 41 i0 _ 6 96 Try.underlying23 hi0 hz0 hz1 hz2 rfl (by decide) _ _ _ rfl ((Own.drewN HOWN0.out _).alloc _) ⟨w1.heap.size, 0, none⟩ 1 1 x.enc rfl rfl ?qc2 x.enc_one ?qc4 ?qc5 ?qc6 ?_)
              case qc2 => exact fun j u hj => Mm.Bk.reads (Mm.Bk.new _ 41 x.enc) j u hj
              case qc4 => simp only [maxLen]; omega
              case qc5 => omega
              case qc6 => have := (hbw0).size; simp; omega
              intro v' w5 hown5 hgrow5 _
              have hb5 : Below w.heap.size w w5 := (((below_drewN (hbw0) _).alloc (below_drewN (hbw0) _).size _).grown hgrow5 (by have := (hbw0).size; simp; omega) (by
                intro q hq
                rcases (HOWN0.out).2 with ⟨hv, _⟩ | ⟨g, cap, cur, hv, hg, _⟩
                · rw [hv] at hq
                  simp [Value.ownBlock] at hq
                · rw [hv] at hq
                  simp [Value.ownBlock] at hq
                  omega))
              obtain ⟨A6, c6, hv6⟩ := Own.slice_of hown5
              have HV6 := Lib.hid hv6
              have HOWN5 := Lib.hid hown5
              clear hv6 hown5 hgrow5 p0 p1 p2 p3 p4 p5
              go_wp2
              go_roundg (n - (k + 1))
              case measure => omega
              case rel => exact ⟨k + 1, j, _, _, _, A6, n5 + 1, c6, by go_num, by omega, Nat.le_refl _, rfl, by omega, HB, HV6.out, by omega, Lib.hid (by have h1 := HOWN5.out; rw [HV6.out] at h1; rw [sub_snoc xs ys k (by rw [HXL.out]; exact hlt), if_neg (by rw [HXE.out]; exact HNM.out), HXE.out, flat_append]; simpa [flat] using h1), hb5, Lib.hid HAdv.out.next⟩
        · obtain rfl : m' = 0 := by omega
          have hmem := HAdv.out.mem RY.out (by rw [HXL.out]; exact hlt) (by rw [HL.out]; omega) (fun h => absurd h (by rw [HL.out]; omega))
          rw [HL.out, HXE.out] at hmem
          have hnm : ¬ x ∈ ys := fun h => absurd (hmem.1 h).1 (by omega)
          have HNM := Lib.hid hnm
          clear hnm
          clear hmem
          have HOWN0 := Lib.hid (Own.ext_own HO.out (((Below.refl _ wo).alloc (Nat.le_refl _) _).trans (hbi.mono (by omega))))
          obtain ⟨p0, p1, p2, p3, p4, p5⟩ := Tp.cells HXB.out
          clear hbi
          go_wp2_with fail
          go_quiet (fail)
          go_wp2_with fail
          go_quiet (fail)
          go_wp2_with (at_builtin; refine wpList_append_own _ rfl _ _ 23 rfl w.heap.size 41 i0 _ 6 96 Try.underlying23 hi0 hz0 hz1 hz2 rfl (by decide) _ _ _ rfl ((Own.drewN HOWN0.out _).alloc _) ⟨wr.heap.size, 0, none⟩ 1 1 x.enc rfl rfl ?qc2 x.enc_one ?qc4 ?qc5 ?qc6 ?_)
          case qc2 => exact fun j u hj => Mm.Bk.reads (Mm.Bk.new _ 41 x.enc) j u hj
          case qc4 => simp only [maxLen]; omega
          case qc5 => omega
          case qc6 => have := (hbw).size; simp; omega
          intro v' w5 hown5 hgrow5 _
          have hb5 : Below w.heap.size w w5 := (((below_drewN (hbw) _).alloc (below_drewN (hbw) _).size _).grown hgrow5 (by have := (hbw).size; simp; omega) (by
            intro q hq
            rcases (HOWN0.out).2 with ⟨hv, _⟩ | ⟨g, cap, cur, hv, hg, _⟩
            · rw [hv] at hq
              simp [Value.ownBlock] at hq
            · rw [hv] at hq
              simp [Value.ownBlock] at hq
              omega))
          obtain ⟨A6, c6, hv6⟩ := Own.slice_of hown5
          have HV6 := Lib.hid hv6
          have HOWN5 := Lib.hid hown5
          clear hv6 hown5 hgrow5 p0 p1 p2 p3 p4 p5
          go_wp2
          go_roundg (n - (k + 1))
          case measure => omega
          case rel => exact ⟨k + 1, j, _, _, _, A6, n5 + 1, c6, by go_num, by omega, Nat.le_refl _, rfl, by omega, HB, HV6.out, by omega, Lib.hid (by have h1 := HOWN5.out; rw [HV6.out] at h1; rw [sub_snoc xs ys k (by rw [HXL.out]; exact hlt), if_neg (by rw [HXE.out]; exact HNM.out), HXE.out, flat_append]; simpa [flat] using h1), hb5, Lib.hid HAdv.out.next⟩
    · clear heq hneq
      have hkn : k = n := by omega
      have hfin := At.of_own HO.out
      rw [hkn, List.take_of_length_le (by rw [HXL.out]; exact Nat.le_refl _)] at hfin
      have HF := Lib.hid hfin
      clear hfin hkn
      go_wp2
      go_ret
      exact ⟨A5, n5, c5, rfl, HF.out, hbel⟩
end Wout
end Go.Proofs.Ytdckfddlcmkdlaa
