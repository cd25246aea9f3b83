/-
  acls.Text: by hand, for it writes into a strings.Builder.
-/
import Derived.Test.YtkikhbfdadambaaDoorAcb
import Derived.Test.YtkikhbfdadambaaDoorAbV
import Derived.Test.YtkikhbfdadambaaDoorPk
import Derived.Shelf.Strings.BuilderF
import Derived.Deep.LoopGhost
import Derived.WalkSpells
import Derived.WalkLawsBesides
import Derived.StillTailTactics
import Derived.Handy
import Derived.Lib.Hide
namespace Go.Proofs
open Go.Shelf Go.RowKit
def Tryd.laysBl_ren : Go.Shelf.Ren := ⟨fun | 170 => 25 | n => n, fun | 70 => 62 | 3 => 3 | 0 => 0 | 72 => 65 | 37 => 63 | 5 => 5 | n => n, fun | n => n⟩
theorem Tryd.laysBl : Go.Proofs.Lays.n170 Tryd.prog Tryd.laysBl_ren := {
  mixed := by kernel_rfl
  f170 := Tryd.func25.trans (congrArg some (by kernel_rfl))
  t0 := Tryd.underlying0
  a0 := Tryd.isAgg0
  z0 := Tryd.sizeOf0
  v0 := Tryd.zeroValue0
  t3 := Tryd.underlying3
  a3 := Tryd.isAgg3
  z3 := Tryd.sizeOf3
  v3 := Tryd.zeroValue3
  t37 := Tryd.underlying63
  a37 := Tryd.isAgg63
  z37 := Tryd.sizeOf63
  v37 := Tryd.zeroValue63
  t70 := Tryd.underlying62
  a70 := Tryd.isAgg62
  z70 := Tryd.sizeOf62
  v70 := Tryd.zeroValue62
  t72 := Tryd.underlying65
  a72 := Tryd.isAgg65
  z72 := Tryd.sizeOf65
  v72 := Tryd.zeroValue65 }
end Go.Proofs
namespace Go.Proofs.YtkikhbfdadambaaDoor.Ab
open Go.Shelf Go.RowKit
def isB (B b : Nat) (t : ByteArray) (w : World) : Prop := Lib.IsBuilderF 65 5 B b (Lib.byteCells t.data.toList) w
theorem b_write (B b : Nat) (t s : ByteArray) (w : World) (h : isB B b t w) (hl : t.size + s.size ≤ 140737488355328) (hB : B ≤ w.heap.size) : Calls Tryd.prog 23 #[.pointer (some ⟨b, 0, none⟩), .string s] w fun e w' => e = .returned (.tuple #[.int .i64 s.size, .nilIface]) ∧ isB B b (t ++ s) w' ∧ Below B w w' := by
  refine (Any.Builder_WriteString_f { Tryd.laysJoin with } Tryd.joinExtra B b _ s w h (by rw [Lib.byteCells_length, bsize]; exact hl) hB).mono ?_
  rintro e w' ⟨h1, h2, h3⟩
  refine ⟨h1, .inr ?_, h3⟩
  have : Lib.byteCells (t ++ s).data.toList = Lib.byteCells t.data.toList ++ Lib.strCells s := by
    rw [list_app]
    simp [Lib.byteCells, Lib.strCells]
  rw [this]
  exact h2
theorem b_len (B b : Nat) (t : ByteArray) (w : World) (h : isB B b t w) : Calls Tryd.prog 25 #[.pointer (some ⟨b, 0, none⟩)] w fun e w' => e = .returned (.int .i64 t.size) ∧ w' = w := by
  have := Any.Builder_Len_f Tryd.laysBl B b _ w h
  rw [Lib.byteCells_length, bsize] at this
  exact this
theorem b_str (B b : Nat) (t : ByteArray) (w : World) (h : isB B b t w) (hB : B ≤ w.heap.size) : Calls Tryd.prog 26 #[.pointer (some ⟨b, 0, none⟩)] w fun e w' => e = .returned (.string t) ∧ isB B b t w' ∧ Below B w w' := by
  refine (Any.Builder_String_any_f { Tryd.laysJoin with } Tryd.joinExtra B b t.data.toList w h hB).mono ?_
  intro e w' h
  cases t
  exact h
theorem isB.keep {B b : Nat} {t : ByteArray} {w w' : World} (h : isB B b t w) (hb : Below w.heap.size w w') : isB B b t w' := by
  have lt : ∀ {i : Nat} {x : Obj}, w.heap[i]? = some x → w'.heap[i]? = some x := fun {i x} hx => (hb.block _ (Array.getElem?_eq_some_iff.1 hx).1).trans hx
  rcases h with ⟨hB, v, h1, ⟨h2, h3⟩, h4⟩ | ⟨hB, v, h1, ⟨h2, h3⟩, h4⟩
  · exact .inl ⟨hB, v, lt h1, ⟨h2, h3.imp id fun ⟨g, cap, cur, fz, e1, e2, e3, e4⟩ => ⟨g, cap, cur, fz, e1, e2, lt e3, e4⟩⟩, h4⟩
  · exact .inr ⟨hB, v, lt h1, ⟨h2, h3.imp id fun ⟨g, cap, cur, fz, e1, e2, e3, e4⟩ => ⟨g, cap, cur, fz, e1, e2, lt e3, e4⟩⟩, h4⟩
/-! ### the model -/
def acls_Text_L (n : Nat) : List GFile → ByteArray → Option (ByteArray ⊕ (ByteArray × Bool))
  | [], b => some (.inl b)
  | f :: l, b => (acls_toldFile n f).bind fun t => (cat t ⟨#[10]⟩).bind fun s => grd (decide (b.size + s.size ≤ 140737488355328)) (if decide (200000 < (b ++ s).size) then some (.inr (⟨#[]⟩, false)) else acls_Text_L n l (b ++ s))
def acls_Text (n : Nat) (l : List GFile) : Option (ByteArray × Bool) :=
  grd (decide (l.length ≤ 1000000000)) ((acls_Text_L n l ⟨#[]⟩).bind fun
    | .inr r => some r
    | .inl b => (acls_Parse n b).bind fun t => if t.2.2 != 0 then some (⟨#[]⟩, false) else (acls_Same n t.1 l).bind fun s => if s then some (b, true) else some (⟨#[]⟩, false))
/-! ### the calls -/
def allB (w : World) : Nat → Prop := fun k => k < w.heap.size ∧ ¬ False
theorem told_calls {n : Nat} {f : GFile} {r : ByteArray} (h : acls_toldFile n f = some r) (w : World) (us : Array Value) (hu : RV1 w (allB w) (D.ag (eGFile f)) (.agg us)) : Calls Tryd.prog 24 #[.agg us] w fun e w' => e = .returned (.string r) ∧ Below w.heap.size w w' := by
  refine ((acls_toldFile_ok h).2 w (fun _ => False) #[.agg us] (fun _ h => h.elim) rfl fun j x hj => ?_).mono ?_
  · cases j with
    | zero => cases hj; exact ⟨_, rfl, hu⟩
    | succ j => cases hj
  · rintro e w' ⟨u, rfl, ⟨h1, _⟩, h2⟩
    cases (show RC w' _ (.v (.string r)) u from h2)
    exact ⟨rfl, h1⟩
theorem parse_calls {n : Nat} {s : ByteArray} {r : List GFile × Int × Int} (h : acls_Parse n s = some r) (w : World) : Calls Tryd.prog 8 #[.string s] w fun e w' => ∃ v, e = .returned (.tuple #[v, .int .i64 r.2.1, .int .i64 r.2.2]) ∧ Below w.heap.size w w' ∧ RV1 w' (allB w') (D.sl (List.map eGFile r.1)) v := by
  refine ((acls_Parse_ok h).2 w (fun _ => False) #[.string s] (fun _ h => h.elim) rfl fun j x hj => ?_).mono ?_
  · cases j with
    | zero => cases hj; exact ⟨_, rfl, .v _ rfl⟩
    | succ j => cases hj
  · rintro e w' ⟨u, rfl, ⟨h1, _⟩, h2⟩
    obtain ⟨vs, rfl, h3, h4⟩ := h2
    obtain ⟨v0, a0, b0⟩ := h4 0 _ rfl
    obtain ⟨v1, a1, b1⟩ := h4 1 _ rfl
    obtain ⟨v2, a2, b2⟩ := h4 2 _ rfl
    cases (show RC w' _ (.v _) v1 from b1)
    cases (show RC w' _ (.v _) v2 from b2)
    refine ⟨v0, ?_, h1, b0.mono (fun _ _ => rfl) fun k hk => ⟨hk.1, id⟩⟩
    have h3 : vs.size = 3 := h3
    congr 2
    apply Array.ext
    · exact h3
    · intro i i1 i2
      have : i = 0 ∨ i = 1 ∨ i = 2 := by omega
      rcases this with rfl | rfl | rfl
      · simpa [i1] using a0
      · simpa [i1] using a1
      · simpa [i1] using a2
theorem same_calls {n : Nat} {a b : List GFile} {r : Bool} (h : acls_Same n a b = some r) (w : World) (u v : Value) (hu : RV1 w (allB w) (D.sl (List.map eGFile a)) u) (hv : RV1 w (allB w) (D.sl (List.map eGFile b)) v) : Calls Tryd.prog 27 #[u, v] w fun e w' => e = .returned (.bool r) ∧ Below w.heap.size w w' := by
  refine ((acls_Same_ok h).2 w (fun _ => False) #[u, v] (fun _ h => h.elim) rfl fun j x hj => ?_).mono ?_
  · rcases j with _ | _ | j
    · cases hj; exact ⟨_, rfl, hu⟩
    · cases hj; exact ⟨_, rfl, hv⟩
    · cases hj
  · rintro e w' ⟨u, rfl, ⟨h1, _⟩, h2⟩
    cases (show RC w' _ (.v (.bool r)) u from h2)
    exact ⟨rfl, h1⟩
theorem file_at {w : World} {I : Nat → Prop} {l : List GFile} {u : Value} (hu : RV1 w I (D.sl (l.map eGFile)) u) : ∃ A c, u = .slice A l.length c ∧ ∀ (k : Nat) (hk : k < l.length), ∃ (b o : Nat) (us : Nat → Value), A = some ⟨b, o, none⟩ ∧ I b ∧ (∀ j, j < 7 → w.cell? ⟨b, o + k * 7 + j, none⟩ = some (us j)) ∧ RV1 w I (D.ag (eGFile l[k])) (.agg #[us 0, us 1, us 2, us 3, us 4, us 5, us 6]) := by
  generalize hes : l.map eGFile = es at hu
  cases (show RC w _ (.sl es) u from hu) with
  | nl a c =>
    have hx : l = [] := by
      cases l with
      | nil => rfl
      | cons x r => cases hes
    subst hx
    exact ⟨a, c, rfl, fun k hk => (by cases hk)⟩
  | sl _ b o c sz us hI hc hz hm hd =>
    subst hes
    refine ⟨some ⟨b, o, none⟩, c, by rw [List.length_map], fun k hk => ⟨b, o, us k, rfl, hI, ?_⟩⟩
    have hg : (l.map eGFile)[k]? = some (eGFile l[k]) := by rw [List.getElem?_map, List.getElem?_eq_getElem hk]; rfl
    have h7 : 7 = sz := hz k _ hg
    subst h7
    have hcell : ∀ j, j < 7 → ∃ d, (eGFile l[k])[j]? = some d := fun j hj => ⟨_, List.getElem?_eq_getElem (show j < (eGFile l[k]).length from hj)⟩
    refine ⟨fun j hj => ?_, ?_⟩
    · obtain ⟨d, hd2⟩ := hcell j hj
      exact hm k j _ d hg hd2
    · refine ⟨_, rfl, rfl, fun j d hj => ?_⟩
      have hlt : j < 7 := (List.getElem?_eq_some_iff.1 hj).1
      refine ⟨us k j, ?_, hd k j _ d hg hj⟩
      have : j = 0 ∨ j = 1 ∨ j = 2 ∨ j = 3 ∨ j = 4 ∨ j = 5 ∨ j = 6 := by omega
      rcases this with rfl | rfl | rfl | rfl | rfl | rfl | rfl <;> rfl
theorem rc_slice {w : World} {I : Nat → Prop} {es : List (List D)} {u : Value} (h : RC w I (.sl es) u) : ∃ A n c, u = .slice A n c := by
  cases h with
  | nl a c => exact ⟨_, _, _, rfl⟩
  | sl _ b o c sz us => exact ⟨_, _, _, rfl⟩
theorem file_cells {w : World} {I : Nat → Prop} {f : GFile} {us : Nat → Value} (h : RV1 w I (D.ag (eGFile f)) (.agg #[us 0, us 1, us 2, us 3, us 4, us 5, us 6])) : ∃ A2 n2 c2 A5 n5 c5, us 0 = .int .i64 f.kind ∧ us 1 = .string f.name ∧ us 2 = .slice A2 n2 c2 ∧ us 3 = .string f.owner ∧ us 4 = .string f.group ∧ us 5 = .slice A5 n5 c5 ∧ us 6 = .int .i64 f.at_ := by
  obtain ⟨vs, e, _, h⟩ := h
  cases e
  obtain ⟨x0, e0, h0⟩ := h 0 _ rfl
  obtain ⟨x1, e1, h1⟩ := h 1 _ rfl
  obtain ⟨x2, e2, h2⟩ := h 2 _ rfl
  obtain ⟨x3, e3, h3⟩ := h 3 _ rfl
  obtain ⟨x4, e4, h4⟩ := h 4 _ rfl
  obtain ⟨x5, e5, h5⟩ := h 5 _ rfl
  obtain ⟨x6, e6, h6⟩ := h 6 _ rfl
  cases e0; cases e1; cases e2; cases e3; cases e4; cases e5; cases e6
  obtain ⟨A2, n2, c2, g2⟩ := rc_slice h2
  obtain ⟨A5, n5, c5, g5⟩ := rc_slice h5
  refine ⟨A2, n2, c2, A5, n5, c5, ?_, ?_, g2, ?_, ?_, g5, ?_⟩
  · generalize us 0 = z at *; cases h0; rfl
  · generalize us 1 = z at *; cases h1; rfl
  · generalize us 3 = z at *; cases h3; rfl
  · generalize us 4 = z at *; cases h4; rfl
  · generalize us 6 = z at *; cases h6; rfl
set_option maxRecDepth 100000 in
set_option maxHeartbeats 2000000 in
theorem text_calls {n : Nat} {l : List GFile} {r : ByteArray × Bool} (H : acls_Text n l = some r) (w : World) (u0 : Value) (hu : RV1 w (allB w) (D.sl (l.map eGFile)) u0) : Calls Tryd.prog 10 #[u0] w fun e w' => e = .returned (.tuple #[.string r.1, .bool r.2]) ∧ Below w.heap.size w w' := by
  unfold acls_Text at H
  obtain ⟨hlen, H⟩ := grd_inv H
  have hlen := of_decide_eq_true hlen
  obtain ⟨A, c, rfl, HX⟩ := file_at hu
  obtain ⟨x, hx, H⟩ := bind_inv H
  have HX := Lib.hid HX
  have HU := Lib.hid hu
  have HF := Lib.hid H
  clear hu H
  go_enter Tryd.func10, Tryd.ntmps10
  go_wp2
  go_loopg [2, 3, 12] l.length (fun gh s2 s3 s12 wr => ∃ (k : Nat) (t : ByteArray), k ≤ l.length ∧ l.length - k ≤ gh ∧ s2 = .string ⟨#[]⟩ ∧ s3 = .bool false ∧ s12 = .int .i64 k ∧ RowKit.Hid (isB w.heap.size w.heap.size t wr) ∧ RowKit.Hid (Below w.heap.size w wr) ∧ RowKit.Hid (acls_Text_L n (l.drop k) t = some x))
  case atStart => exact ⟨0, ⟨#[]⟩, Nat.zero_le _, Nat.le_refl _, rfl, rfl, rfl, Lib.hid (Lib.IsBuilderF.of (Lib.fresh_isBuilder _ _ w)), Lib.hid ((Below.refl _ w).alloc (Nat.le_refl _) _), Lib.hid hx⟩
  case round =>
    obtain ⟨k, t, hk, hg, rfl, rfl, rfl, hB, hbel, hT⟩ := hrel
    by_cases hlt : k < l.length
    · obtain ⟨b, o, us, rfl, hI, hc, hrv⟩ := HX.out k hlt
      have hcell : ∀ j, j < 7 → wr.cell? ⟨b, o + k * 7 + j, none⟩ = some (us j) := fun j hj => (hbel.out.cell (p := ⟨b, o + k * 7 + j, none⟩) hI.1).trans (hc j hj)
      have c0 : wr.cell? ⟨b, o + k * 7, none⟩ = some (us 0) := hcell 0 (by decide)
      have c1 := hcell 1 (by decide)
      have c2 := hcell 2 (by decide)
      have c3 := hcell 3 (by decide)
      have c4 := hcell 4 (by decide)
      have c5 := hcell 5 (by decide)
      have c6 := hcell 6 (by decide)
      obtain ⟨A2, n2, d2, A5, n5, d5, e0, e1, e2, e3, e4, e5, e6⟩ := file_cells hrv
      rw [e0] at c0 hrv
      rw [e1] at c1 hrv
      rw [e2] at c2 hrv
      rw [e3] at c3 hrv
      rw [e4] at c4 hrv
      rw [e5] at c5 hrv
      rw [e6] at c6 hrv
      have hrv2 : RV1 wr (allB wr) _ _ := RV1.mono (w := w) (I := allB w) (fun q hq => hbel.out.block q hq.1) (fun q hq => ⟨Nat.lt_of_lt_of_le hq.1 hbel.out.size, id⟩) hrv
      have HR := Lib.hid hrv2
      have h1 := hT.out
      rw [List.drop_eq_getElem_cons hlt] at h1
      obtain ⟨tt, g1, h1⟩ := bind_inv h1
      obtain ⟨ss, g2, h1⟩ := bind_inv h1
      obtain ⟨g3, h1⟩ := grd_inv h1
      obtain ⟨g4, rfl⟩ := cat_inv g2
      have G1 := Lib.hid g1
      have G3 := Lib.hid (of_decide_eq_true g3)
      have G4 := Lib.hid g4
      have H1 := Lib.hid h1
      clear hrv hrv2 hc hcell e0 e1 e2 e3 e4 e5 e6 g1 g2 g3 g4 h1
      generalize l[k] = f at *
      have s7 : (k : Int) < l.length := by omega
      go_wp2_with (go_at_fn 24)
      refine (told_calls G1.out _ _ (RV1.mono (w := wr) (I := allB wr) (fun q hq => Lib.alloc_old wr _ q hq.1) (fun q hq => ⟨Nat.lt_of_lt_of_le hq.1 ((Below.refl wr.heap.size wr).alloc (Nat.le_refl _) _).size, id⟩) HR.out)).mono ?_
      rintro e w2 ⟨rfl, hb2⟩
      have hal : ∀ o, Below wr.heap.size wr (wr.alloc o) := fun o => (Below.refl _ wr).alloc (Nat.le_refl _) o
      have HB2 := Lib.hid ((hB.out.keep (hal _)).keep hb2)
      have hbel2 := Lib.hid ((hbel.out.trans ((hal _).mono hbel.out.size)).trans (hb2.mono (Nat.le_trans hbel.out.size (hal _).size)))
      clear hb2 hal hB hbel HR c0 c1 c2 c3 c4 c5 c6
      have s8 : ¬ 9223372036854775807 < tt.size + 1 := by
        have h9 : tt.size + 1 ≤ maxLen := G4.out
        unfold maxLen at h9
        omega
      go_wp2_with (go_at_fn 23)
      have hcall := b_write w.heap.size w.heap.size t (tt ++ ⟨#[10]⟩) w2 HB2.out G3.out hbel2.out.size
      refine Calls.mono hcall ?_
      rintro e w3 ⟨rfl, h3, h4⟩
      clear hcall
      have HB3 := Lib.hid h3
      have hbel3 := Lib.hid (hbel2.out.trans h4)
      clear h3 h4 HB2 hbel2
      go_wp2_with (go_at_fn 25)
      have hcall := b_len w.heap.size w.heap.size (t ++ (tt ++ ⟨#[10]⟩)) w3 HB3.out
      refine Calls.mono hcall ?_
      rintro e w4 ⟨rfl, rfl⟩
      clear hcall
      generalize (t ++ (tt ++ ⟨#[10]⟩)).size = z at *
      rcases ite_inv H1.out with ⟨q1, q2⟩ | ⟨q1, q2⟩
      · have s9 : (200000 : Int) < (z : Int) := by
          have := of_decide_eq_true q1
          omega
        have hxr := HF.out
        rw [← Option.some.inj q2] at hxr
        have hr : r = (⟨#[]⟩, false) := (Option.some.inj hxr).symm
        clear q1 q2 H1 hxr
        go_wp2
        go_ret2
        rw [hr]
        exact ⟨rfl, hbel3.out⟩
      · have s9 : ¬ (200000 : Int) < (z : Int) := by
          have := of_decide_eq_false q1
          omega
        have HT2 := Lib.hid q2
        clear q1 q2 H1
        go_wp2
        go_roundg (l.length - (k + 1))
        case measure => omega
        case rel => exact ⟨k + 1, t ++ (tt ++ ⟨#[10]⟩), by omega, Nat.le_refl _, rfl, rfl, by go_num, HB3, hbel3, HT2⟩
    · have hk2 : k = l.length := by omega
      have h1 := hT.out
      rw [hk2, List.drop_length] at h1
      have hxr := HF.out
      rw [← Option.some.inj h1] at hxr
      obtain ⟨tr, p1, p2⟩ := bind_inv hxr
      have P1 := Lib.hid p1
      have P2 := Lib.hid p2
      have s7 : ¬ (k : Int) < l.length := by omega
      clear h1 hxr p1 p2
      go_wp2_with (go_at_fn 26)
      have hcall := b_str w.heap.size w.heap.size t wr hB.out hbel.out.size
      refine Calls.mono hcall ?_
      rintro e w2 ⟨rfl, h3, h4⟩
      clear hcall
      have HB2 := Lib.hid h3
      have hbel2 := Lib.hid (hbel.out.trans h4)
      clear h3 h4 hB hbel
      go_wp2_with (go_at_fn 8)
      have hcall := parse_calls P1.out w2
      refine Calls.mono hcall ?_
      rintro e w3 ⟨v, rfl, h3, h4⟩
      clear hcall
      have HB3 := Lib.hid (HB2.out.keep h3)
      have hbel3 := Lib.hid (hbel2.out.trans (h3.mono hbel2.out.size))
      have HV := Lib.hid h4
      clear h3 h4 HB2 hbel2
      rcases ite_inv P2.out with ⟨q1, q2⟩ | ⟨q1, q2⟩
      · have s9 : ¬ tr.2.2 = 0 := by simpa using q1
        have s10 : (tr.2.2 == 0) = false := by simpa using q1
        have hr : r = (⟨#[]⟩, false) := (Option.some.inj q2).symm
        clear q1 q2 P2
        go_wp2
        go_ret2
        rw [hr]
        exact ⟨rfl, hbel3.out⟩
      · have e0 : tr.2.2 = 0 := by simpa using q1
        obtain ⟨sm, g1, g2⟩ := bind_inv q2
        have G1 := Lib.hid g1
        have G2 := Lib.hid g2
        clear q1 q2 P2 g1 g2
        rw [e0]
        go_wp2_with (go_at_fn 27)
        have hcall := same_calls G1.out w3 v (.slice A l.length c) HV.out (RV1.mono (w := w) (I := allB w) (fun q hq => hbel3.out.block q hq.1) (fun q hq => ⟨Nat.lt_of_lt_of_le hq.1 hbel3.out.size, id⟩) HU.out)
        refine Calls.mono hcall ?_
        rintro e w4 ⟨rfl, h3⟩
        clear hcall
        have HB4 := Lib.hid (HB3.out.keep h3)
        have hbel4 := Lib.hid (hbel3.out.trans (h3.mono hbel3.out.size))
        clear h3 HB3 hbel3
        cases sm with
        | true =>
          have hr : r = (t, true) := (Option.some.inj G2.out).symm
          clear G1 G2
          go_wp2_with (go_at_fn 26)
          have hcall := b_str w.heap.size w.heap.size t w4 HB4.out hbel4.out.size
          refine Calls.mono hcall ?_
          rintro e w5 ⟨rfl, h3, h4⟩
          clear hcall
          have hbel5 := Lib.hid (hbel4.out.trans h4)
          clear h3 h4 HB4 hbel4
          go_wp2
          go_ret2
          rw [hr]
          exact ⟨rfl, hbel5.out⟩
        | false =>
          have hr : r = (⟨#[]⟩, false) := (Option.some.inj G2.out).symm
          clear G1 G2
          go_wp2
          go_ret2
          rw [hr]
          exact ⟨rfl, hbel4.out⟩
theorem acls_Text_ok {n : Nat} {l : List GFile} {r : ByteArray × Bool} (H : acls_Text n l = some r) : PureOK Tryd.prog 10 [D.sl (List.map eGFile l)] (D.tu [D.v (.string r.1), D.v (.bool r.2)]) true := by
  refine ⟨⟨_, Tryd.func10, by kernel_rfl, by kernel_rfl⟩, fun w M0 args hM hsz hargs => ?_⟩
  obtain ⟨u0, a0, b0⟩ := hargs 0 _ rfl
  have hargs2 : args = #[u0] := by
    have hsz2 : args.size = 1 := by simpa using hsz
    apply Array.ext
    · simpa using hsz2
    · intro j h1 h2
      have hj : j = 0 := by omega
      subst hj
      simpa [h1] using a0
  subst hargs2
  have key := text_calls H w u0 (b0.mono (fun _ _ => rfl) fun k hk => ⟨hk.1, id⟩)
  refine (calls_dr key fun e w' h => ⟨_, h.1⟩).mono ?_
  rintro e w' ⟨⟨rfl, h2⟩, h3⟩
  refine ⟨_, rfl, ⟨h2, h3⟩, _, rfl, rfl, fun j d hj => ?_⟩
  rcases j with _ | _ | j
  · cases hj
    exact ⟨_, rfl, .v _ rfl⟩
  · cases hj
    exact ⟨_, rfl, .v _ rfl⟩
  · cases hj
end Go.Proofs.YtkikhbfdadambaaDoor.Ab
