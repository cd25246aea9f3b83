/-
 Functions, read off the code.
-/
import Derived.Test.YtkkhgdmmbhpckaaGreatNxc
namespace Go.Proofs.YtkkhgdmmbhpckaaGreat.Ab
open Go.RowKit
def qG_ (n : Nat) (t19 : List ByteArray) (t25 : List ByteArray) : Nat → (List ByteArray × Int × Int) → Option (List ByteArray)
 | 0, _ => none
 | c + 1, (t5, t6, t7) =>
  (
   (if (decide (t6 < (t19.length : Int))) then
    some true
   else
    some (decide (t7 < (t25.length : Int)))) : Option (Bool)).bind fun t352 =>
  (if t352 then
   (
    (if (t7 == (t25.length : Int)) then
     some true
    else
     (if (decide (t6 < (t19.length : Int))) then
      (idx t19 t6).bind fun x7 =>
      (idx t25 t7).bind fun x8 =>
      some (Op.bytesLess x7.toList x8.toList)
     else
      some false)) : Option (Bool)).bind fun t382 =>
   (if t382 then
    (idx t19 t6).bind fun x9 =>
    (app t5 [x9]).bind fun l4 =>
    qG_ n t19 t25 c (l4, (IntKind.i64.wrap (t6 + 1)), t7)
   else
    (if (t6 == (t19.length : Int)) then
     (idx t25 t7).bind fun x10 =>
     (app t5 [x10]).bind fun l5 =>
     qG_ n t19 t25 c (l5, t6, (IntKind.i64.wrap (t7 + 1)))
    else
     (idx t25 t7).bind fun x11 =>
     (idx t19 t6).bind fun x12 =>
     (if (Op.bytesLess x11.toList x12.toList) then
      (app t5 [x11]).bind fun l6 =>
      qG_ n t19 t25 c (l6, t6, (IntKind.i64.wrap (t7 + 1)))
     else
      qG_ n t19 t25 c (t5, (IntKind.i64.wrap (t6 + 1)), t7))))
  else
   some t5)
def xQ_ : Nat → (List ByteArray) → Option (List ByteArray)
 | 0, _ => none
 | n + 1, t0 =>
  (if (decide ((t0.length : Int) < 2)) then
   (app [] t0).bind fun _ =>
   some t0
  else
   (slc t0 0 (IntKind.i64.wrap (Int.tdiv (t0.length : Int) 2))).bind fun l2 =>
   ((xQ_ n) l2).bind fun t19 =>
   (slc t0 (IntKind.i64.wrap (Int.tdiv (t0.length : Int) 2)) ((List.length t0) : Int)).bind fun l3 =>
   ((xQ_ n) l3).bind fun t25 =>
   (
    qG_ n t19 t25 n ([], 0, 0) : Option (List ByteArray)).bind fun t53 =>
   some t53)
set_option maxHeartbeats 8000000 in
theorem kq_ : ∀ {n : Nat} {t0 : List ByteArray} {r : List ByteArray}, xQ_ n t0 = some r → PureOK Tryz.prog 35 [D.sl (List.map eS t0)] (D.sl (List.map eS r)) true := by
 intro n;induction n with
 | zero => intro t0 r H; exact Zx H
 | succ n ih =>
  intro t0 r H;unfold xQ_ at H;refine ZP qo_ fol (rs := #[.tmp 2]) Tryz.func35 ?_;refine zsq (ZT 1 ?_);refine Z0 ?_;refine zsq (ZT 1 ?_);refine Z0 ?_;rcases zit H with ⟨c1, H2⟩ | ⟨c1, H2⟩
  ·obtain ⟨l, b3, H4⟩ := zbi H2
   obtain ⟨h5, h6⟩ := qj_ b3;have h6 : t0 = l := h6;subst h6;have h5 : t0.length ≤ 4294967296 := by have := h5; simpa using this
   refine Z1 (Y4 c1 (qx_ (f := eS) (fun _ => rfl) t0) (qF_ (n := 1) (f := eS) (fun _ => rfl) t0) h5) ?_;obtain rfl := Zi H4;exact ZE1 (Y4 c1 (qx_ (f := eS) (fun _ => rfl) t0) (qF_ (n := 1) (f := eS) (fun _ => rfl) t0) h5)
  ·refine Z1 c1 ?_
   refine zsq (ZT 1 ?_);obtain ⟨l2, b9, H10⟩ := zbi H2;obtain ⟨h11, h12, h13, h14⟩ := v5_ b9;have h15 : 0 ≤ Int.toNat (IntKind.i64.wrap (Int.tdiv (t0.length : Int) 2)) := by omega
   have h16 : Int.toNat (IntKind.i64.wrap (Int.tdiv (t0.length : Int) 2)) ≤ (List.length t0) := by omega
   have h17 : List.take (Int.toNat (IntKind.i64.wrap (Int.tdiv (t0.length : Int) 2))) (List.map eS t0) = List.map eS l2 := by rw [h14]; simp [List.map_take]
   try simp only [Int.toNat_natCast] at h15 h16 h17
   obtain ⟨t19, b18, H19⟩ := zbi H10;refine Z1 (Y6 c1 (zno .i64 (Int.le_trans h11 h12)) h15 h16 h17 (qF_ (n := 1) (f := eS) (fun _ => rfl) t0)) ?_;refine ZD0 (ih b18) ?_;obtain ⟨l3, b20, H21⟩ := zbi H19;obtain ⟨h22, h23, h24, h25⟩ := v5_ b20;have h26 : Int.toNat (IntKind.i64.wrap (Int.tdiv (t0.length : Int) 2)) ≤ (List.length t0) := by omega
   have h27 : (List.length t0) ≤ (List.length t0) := by omega
   have h28 : List.drop (Int.toNat (IntKind.i64.wrap (Int.tdiv (t0.length : Int) 2))) (List.map eS t0) = List.map eS l3 := by rw [h25]; simp [List.map_drop]
   try simp only [Int.toNat_natCast] at h26 h27 h28
   obtain ⟨t25, b29, H30⟩ := zbi H21;refine Z1 (Y2 (Y6 c1 (zno .i64 (Int.le_trans h11 h12)) h15 h16 h17 (qF_ (n := 1) (f := eS) (fun _ => rfl) t0)) (Y4 (zno .i64 h22) h26 h27 h28)) ?_;refine ZD0 (ih b29) ?_;refine Z1 (Y2 (Y6 c1 (zno .i64 (Int.le_trans h11 h12)) h15 h16 h17 (qF_ (n := 1) (f := eS) (fun _ => rfl) t0)) (Y4 (zno .i64 h22) h26 h27 h28)) ?_;refine qf_ (by rfl) ?_
   refine Z1 (Y2 (Y6 c1 (zno .i64 (Int.le_trans h11 h12)) h15 h16 h17 (qF_ (n := 1) (f := eS) (fun _ => rfl) t0)) (Y4 (zno .i64 h22) h26 h27 h28)) ?_;refine zsq (ZT 1 ?_);refine Z1 (Y2 (Y6 c1 (zno .i64 (Int.le_trans h11 h12)) h15 h16 h17 (qF_ (n := 1) (f := eS) (fun _ => rfl) t0)) (Y4 (zno .i64 h22) h26 h27 h28)) ?_;refine zsq (ZT 1 ?_)
   refine Z1 (Y2 (Y6 c1 (zno .i64 (Int.le_trans h11 h12)) h15 h16 h17 (qF_ (n := 1) (f := eS) (fun _ => rfl) t0)) (Y4 (zno .i64 h22) h26 h27 h28)) ?_;refine zsq ?_;obtain ⟨e_, E31, H32⟩ := zbi H30;refine zjn (α := { y : List ByteArray // e_ = y } × Nat) (fun | ⟨⟨t53, _⟩, g5⟩ => ⟨upd 5 (accV 0 g5 (List.map eS t53)) noFr, upd 0 (accO 1 g5 false (List.map eS t53)) noHp, 1⟩) ?_ ?_
   ·refine zbk ?_
    refine zlp (α := { q : (Nat × (List ByteArray × Int × Int)) × Nat // qG_ n t19 t25 q.1.1 q.1.2 = some e_ }) (fun | ⟨⟨⟨c, ⟨t5, t6, t7⟩⟩, g⟩, _⟩ => ⟨upd 3 (.d (.sl (List.map eS t19)) false) (upd 4 (.d (.sl (List.map eS t25)) false) (upd 5 (accV 0 g (List.map eS t5)) (upd 6 (.v (.int .i64 t6)) (upd 7 (.v (.int .i64 t7)) noFr)))), upd 0 (accO 1 g false (List.map eS t5)) noHp, 1⟩) (fun q => q.1.1.1) ⟨((n, ([], 0, 0)), 0), E31⟩ ?_ ?_
    ·exact ZR []
    ·rintro ⟨⟨⟨c, ⟨t5, t6, t7⟩⟩, g⟩, L33⟩
     rcases c with _ | c
     ·exact Zx L33
     ·unfold qG_ at L33
      try dsimp only at L33
      refine zsq (zsq ?_);obtain ⟨e_4, E90, H91⟩ := zbi L33
      refine zjn (α := { y : Bool // e_4 = y } × Nat) (fun | ⟨⟨t352, _⟩, g2⟩ => ⟨upd 3 (.d (.sl (List.map eS t19)) false) (upd 4 (.d (.sl (List.map eS t25)) false) (upd 5 (accV 0 g2 (List.map eS t5)) (upd 6 (.v (.int .i64 t6)) (upd 7 (.v (.int .i64 t7)) (upd 35 (.v (.bool t352)) noFr))))), upd 0 (accO 1 g2 false (List.map eS t5)) noHp, 1⟩) ?_ ?_
      ·refine ZT 1 ?_
       refine Z0 ?_;rcases zit E90 with ⟨c92, H93⟩ | ⟨c92, H93⟩
       ·refine Z1 c92 ?_
        obtain rfl := Zi H93;exact ⟨⟨⟨true, rfl⟩, g⟩, ZR [(0, 0)]⟩
       ·refine Z1 c92 ?_
        obtain rfl := Zi H93;exact ⟨⟨⟨(decide (t7 < (t25.length : Int))), rfl⟩, g⟩, ZR [(0, 0)]⟩
      ·rintro ⟨⟨t352, he169⟩, g2⟩
       obtain rfl := he169.symm;try dsimp only at H91
       refine ZT 1 ?_;refine Z0 ?_;rcases zit H91 with ⟨c94, H95⟩ | ⟨c94, H95⟩
       ·refine Z1 c94 ?_
        refine zbk ?_;refine zbk ?_;refine zsq ?_;obtain ⟨e_5, E96, H97⟩ := zbi H95
        refine zjn (α := { y : Bool // e_5 = y } × Nat) (fun | ⟨⟨t382, _⟩, g3⟩ => ⟨upd 3 (.d (.sl (List.map eS t19)) false) (upd 4 (.d (.sl (List.map eS t25)) false) (upd 5 (accV 0 g3 (List.map eS t5)) (upd 6 (.v (.int .i64 t6)) (upd 7 (.v (.int .i64 t7)) (upd 38 (.v (.bool t382)) noFr))))), upd 0 (accO 1 g3 false (List.map eS t5)) noHp, 1⟩) ?_ ?_
        ·refine ZT 1 ?_
         refine Z0 ?_;rcases zit E96 with ⟨c98, H99⟩ | ⟨c98, H99⟩
         ·refine Z1 c98 ?_
          refine qf_ (by rfl) ?_;refine Z1 c98 ?_;obtain rfl := Zi H99;exact ⟨⟨⟨true, rfl⟩, g2⟩, ZR [(0, 0)]⟩
         ·refine Z1 c98 ?_
          rcases zit H99 with ⟨c100, H101⟩ | ⟨c100, H101⟩
          ·obtain ⟨x7, b102, H103⟩ := zbi H101
           obtain ⟨h104, h105⟩ := zix b102;try simp only [Int.reduceToNat, Int.toNat_natCast] at h105
           have h106 := qi_ eS h105;obtain ⟨x8, b108, H109⟩ := zbi H103;obtain ⟨h110, h111⟩ := zix b108;try simp only [Int.reduceToNat, Int.toNat_natCast] at h111
           have h112 := qi_ eS h111;refine Z1 (Y6 c98 c100 (zno .i64 h104) h106 (zno .i64 h110) h112) ?_;refine qf_ (by rfl) ?_;refine Z1 (Y6 c98 c100 (zno .i64 h104) h106 (zno .i64 h110) h112) ?_;obtain rfl := Zi H109;exact ⟨⟨⟨(Op.bytesLess x7.toList x8.toList), rfl⟩, g2⟩, ZR [(0, 0)]⟩
          ·refine Z1 (Y2 c98 c100) ?_
           refine qf_ (by rfl) ?_;refine Z1 (Y2 c98 c100) ?_;obtain rfl := Zi H101;exact ⟨⟨⟨false, rfl⟩, g2⟩, ZR [(0, 0)]⟩
        ·rintro ⟨⟨t382, he168⟩, g3⟩
         obtain rfl := he168.symm;try dsimp only at H97
         refine ZT 3 ?_;refine Z0 ?_;rcases zit H97 with ⟨c114, H115⟩ | ⟨c114, H115⟩
         ·obtain ⟨x9, b116, H117⟩ := zbi H115
          obtain ⟨h118, h119⟩ := zix b116;try simp only [Int.reduceToNat, Int.toNat_natCast] at h119
          have h120 := qi_ eS h119;obtain ⟨l4, b122, H123⟩ := zbi H117;obtain ⟨h124, h125⟩ := qj_ b122;have h124 : t5.length + 1 ≤ 4294967296 := h124;have h126 : List.map eS t5 ++ [[.v (.string x9)]] = List.map eS l4 := qm_ eS h125;have h127 : t5.length + 1 = l4.length := qn_ h125;have h128 : l4.length ≤ 4294967296 := by omega
          have q129 : 0 < l4.length := by omega
          refine Z1 (Y2 (Y6 c114 (zno .i64 h118) h120 h124 h126 h127) h128) ?_;rcases t5 with _ | ⟨q0, q1⟩
          ·try simp only [List.map_nil, accI, accN]
           exact ⟨⟨((c, (l4, (IntKind.i64.wrap (t6 + 1)), t7)), 0), H123⟩, ZR [(0, 7)], Nat.lt_succ_self _⟩
          ·try simp only [List.map_cons, accI, accN]
           exact ⟨⟨((c, (l4, (IntKind.i64.wrap (t6 + 1)), t7)), (g3 + 1)), H123⟩, ZR [(0, 0)], Nat.lt_succ_self _⟩
         ·refine Z1 c114 ?_
          rcases zit H115 with ⟨c130, H131⟩ | ⟨c130, H131⟩
          ·refine Z1 (Y2 c114 c130) ?_
           refine qf_ (by rfl) ?_;obtain ⟨x10, b132, H133⟩ := zbi H131;obtain ⟨h134, h135⟩ := zix b132;try simp only [Int.reduceToNat, Int.toNat_natCast] at h135
           have h136 := qi_ eS h135;obtain ⟨l5, b138, H139⟩ := zbi H133;obtain ⟨h140, h141⟩ := qj_ b138;have h140 : t5.length + 1 ≤ 4294967296 := h140;have h142 : List.map eS t5 ++ [[.v (.string x10)]] = List.map eS l5 := qm_ eS h141;have h143 : t5.length + 1 = l5.length := qn_ h141;have h144 : l5.length ≤ 4294967296 := by omega
           have q145 : 0 < l5.length := by omega
           refine Z1 (Y2 (Y6 c114 c130 (zno .i64 h134) h136 h140 h142) (Y2 h143 h144)) ?_;rcases t5 with _ | ⟨q0, q1⟩
           ·try simp only [List.map_nil, accI, accN]
            exact ⟨⟨((c, (l5, t6, (IntKind.i64.wrap (t7 + 1)))), 0), H139⟩, ZR [(0, 23)], Nat.lt_succ_self _⟩
           ·try simp only [List.map_cons, accI, accN]
            exact ⟨⟨((c, (l5, t6, (IntKind.i64.wrap (t7 + 1)))), (g3 + 1)), H139⟩, ZR [(0, 0)], Nat.lt_succ_self _⟩
          ·obtain ⟨x11, b146, H147⟩ := zbi H131
           obtain ⟨h148, h149⟩ := zix b146;try simp only [Int.reduceToNat, Int.toNat_natCast] at h149
           have h150 := qi_ eS h149;obtain ⟨x12, b152, H153⟩ := zbi H147;obtain ⟨h154, h155⟩ := zix b152;try simp only [Int.reduceToNat, Int.toNat_natCast] at h155
           have h156 := qi_ eS h155;refine Z1 (Y6 c114 c130 (zno .i64 h148) h150 (zno .i64 h154) h156) ?_;refine qf_ (by rfl) ?_;refine Z1 (Y6 c114 c130 (zno .i64 h148) h150 (zno .i64 h154) h156) ?_;rcases zit H153 with ⟨c158, H159⟩ | ⟨c158, H159⟩
           ·obtain ⟨l6, b160, H161⟩ := zbi H159
            obtain ⟨h162, h163⟩ := qj_ b160;have h162 : t5.length + 1 ≤ 4294967296 := h162;have h164 : List.map eS t5 ++ [[.v (.string x11)]] = List.map eS l6 := qm_ eS h163;have h165 : t5.length + 1 = l6.length := qn_ h163;have h166 : l6.length ≤ 4294967296 := by omega
            have q167 : 0 < l6.length := by omega
            refine Z1 (Y2 (Y6 c114 c130 (zno .i64 h148) h150 (zno .i64 h154) h156) (Y5 c158 h162 h164 h165 h166)) ?_;rcases t5 with _ | ⟨q0, q1⟩
            ·try simp only [List.map_nil, accI, accN]
             exact ⟨⟨((c, (l6, t6, (IntKind.i64.wrap (t7 + 1)))), 0), H161⟩, ZR [(0, 23)], Nat.lt_succ_self _⟩
            ·try simp only [List.map_cons, accI, accN]
             exact ⟨⟨((c, (l6, t6, (IntKind.i64.wrap (t7 + 1)))), (g3 + 1)), H161⟩, ZR [(0, 0)], Nat.lt_succ_self _⟩
           ·refine Z1 (Y2 (Y6 c114 c130 (zno .i64 h148) h150 (zno .i64 h154) h156) c158) ?_
            exact ⟨⟨((c, (t5, (IntKind.i64.wrap (t6 + 1)), t7)), g3), H159⟩, ZR [(0, 0)], Nat.lt_succ_self _⟩
       ·refine Z1 c94 ?_
        obtain rfl := Zi H95;exact ⟨⟨⟨t5, rfl⟩, g2⟩, ZR [(0, 0)]⟩
   ·rintro ⟨⟨t53, he170⟩, g5⟩
    obtain rfl := he170.symm;try dsimp only at H32
    refine ZT 1 ?_;refine Z0 ?_;obtain rfl := Zi H32;exact ZE0
def qU_ (n : Nat) (a : List ByteArray) (b : List ByteArray) : Nat → Int → Option ((Unit) ⊕ Bool)
 | 0, _ => none
 | c + 1, i =>
  (
   (if (decide (i < (a.length : Int))) then
    some (decide (i < (b.length : Int)))
   else
    some false) : Option (Bool)).bind fun t152 =>
  (if t152 then
   (idx a i).bind fun x3 =>
   (idx b i).bind fun x4 =>
   (if (x3.toList == x4.toList) then
    qU_ n a b c (IntKind.i64.wrap (i + 1))
   else
    some (.inr (Op.bytesLess x3.toList x4.toList)))
  else
   some (.inl ()))
def xx_ (n : Nat) (a : List ByteArray) (b : List ByteArray) : Option Bool :=
 (
  qU_ n a b n 0 : Option ((Unit) ⊕ Bool)).bind fun
  | .inl _ =>
   some (decide ((a.length : Int) < (b.length : Int)))
  | .inr r => some r
theorem kr_ {n : Nat} {a : List ByteArray} {b : List ByteArray} {r : Bool} (H : xx_ n a b = some r) : PureOK Tryz.prog 90 [D.sl (List.map eS a), D.sl (List.map eS b)] (D.v (.bool r)) true := by
 unfold xx_ at H;refine ZP qo_ fol (rs := #[.tmp 4]) Tryz.func90 ?_;refine zsq (ZT 1 ?_);refine Z0 ?_;refine zsq (zsq ?_);refine ZT 1 ?_;refine Z0 ?_;obtain ⟨e_, E1, H2⟩ := zbi H;refine zjn (α := { y : Unit // e_ = .inl y }) (fun | ⟨_, _⟩ => ⟨upd 0 (.d (.sl (List.map eS a)) true) (upd 1 (.d (.sl (List.map eS b)) true) noFr), noHp, 0⟩) ?_ ?_
 ·refine zbk ?_
  refine zlp (α := { q : Nat × Int // qU_ n a b q.1 q.2 = some e_ }) (fun | ⟨⟨c, i⟩, _⟩ => ⟨upd 0 (.d (.sl (List.map eS a)) true) (upd 1 (.d (.sl (List.map eS b)) true) (upd 5 (.v (.int .i64 i)) noFr)), noHp, 0⟩) (fun q => q.1.1) ⟨(n, 0), E1⟩ ?_ ?_
  ·exact ZR []
  ·rintro ⟨⟨c, i⟩, L3⟩
   rcases c with _ | c
   ·exact Zx L3
   ·unfold qU_ at L3
    try dsimp only at L3
    refine zsq (zsq ?_);obtain ⟨e_3, E25, H26⟩ := zbi L3;refine zjn (α := { y : Bool // e_3 = y }) (fun | ⟨t152, _⟩ => ⟨upd 0 (.d (.sl (List.map eS a)) true) (upd 1 (.d (.sl (List.map eS b)) true) (upd 5 (.v (.int .i64 i)) (upd 15 (.v (.bool t152)) noFr))), noHp, 0⟩) ?_ ?_
    ·refine ZT 1 ?_
     refine Z0 ?_;rcases zit E25 with ⟨c27, H28⟩ | ⟨c27, H28⟩
     ·refine Z1 c27 ?_
      obtain rfl := Zi H28;exact ⟨⟨(decide (i < (b.length : Int))), rfl⟩, ZR []⟩
     ·refine Z1 c27 ?_
      obtain rfl := Zi H28;exact ⟨⟨false, rfl⟩, ZR []⟩
    ·rintro ⟨t152, he45⟩
     obtain rfl := he45.symm;try dsimp only at H26
     refine ZT 2 ?_;refine Z0 ?_;rcases zit H26 with ⟨c29, H30⟩ | ⟨c29, H30⟩
     ·obtain ⟨x3, b31, H32⟩ := zbi H30
      obtain ⟨h33, h34⟩ := zix b31;try simp only [Int.reduceToNat, Int.toNat_natCast] at h34
      have h35 := qi_ eS h34;obtain ⟨x4, b37, H38⟩ := zbi H32;obtain ⟨h39, h40⟩ := zix b37;try simp only [Int.reduceToNat, Int.toNat_natCast] at h40
      have h41 := qi_ eS h40;refine Z1 (Y5 c29 (zno .i64 h33) h35 (zno .i64 h39) h41) ?_;refine qf_ (by rfl) ?_;refine Z1 (Y5 c29 (zno .i64 h33) h35 (zno .i64 h39) h41) ?_;rcases zit H38 with ⟨c43, H44⟩ | ⟨c43, H44⟩
      ·refine Z1 (Y6 c29 (zno .i64 h33) h35 (zno .i64 h39) h41 c43) ?_
       exact ⟨⟨(c, (IntKind.i64.wrap (i + 1))), H44⟩, ZR [], Nat.lt_succ_self _⟩
      ·refine Z1 (Y6 c29 (zno .i64 h33) h35 (zno .i64 h39) h41 c43) ?_
       refine qf_ (by rfl) ?_;refine Z1 (Y6 c29 (zno .i64 h33) h35 (zno .i64 h39) h41 c43) ?_;obtain rfl := Zi H44;obtain rfl := Zi H2;exact ZE0
     ·refine Z1 c29 ?_
      obtain rfl := Zi H30;exact ⟨⟨(), rfl⟩, ZR []⟩
 ·rintro ⟨_, he46⟩
  obtain rfl := he46.symm;try dsimp only at H2
  refine ZT 1 ?_;refine Z0 ?_;obtain rfl := Zi H2;exact ZE0
def vF_ (_ : Nat) (f : GFact) : Option (List ByteArray) :=
 (
  (if (f.kind == 6) then
   some true
  else
   some (f.kind == 7)) : Option (Bool)).bind fun t5 =>
 (if t5 then
  (app [f.a] f.l).bind fun l =>
  some l
 else
  (if (f.kind == 8) then
   (app [f.a, f.b] f.l).bind fun l2 =>
   some l2
  else
   some [f.a, f.b, f.c]))
theorem ya_ {n : Nat} {f : GFact} {r : List ByteArray} (H : vF_ n f = some r) : PureOK Tryz.prog 91 [D.ag (eGFact f)] (D.sl (List.map eS r)) true := by
 unfold vF_ at H;refine ZP qo_ fol (rs := #[.tmp 2]) Tryz.func91 ?_;refine zsq (ZT 1 ?_);refine Z0 ?_;refine zsq (zsq ?_);refine ZT 1 ?_;refine Z0 ?_;refine zbk ?_;refine zsq (zsq ?_);refine ZT 1 ?_;refine Z0 ?_;obtain ⟨e_, E1, H2⟩ := zbi H
 refine zjn (α := { y : Bool // e_ = y }) (fun | ⟨t5, _⟩ => ⟨upd 1 (.pt 0 0) (upd 4 (.v (.int .i64 f.kind)) (upd 5 (.v (.bool t5)) noFr)), upd 0 (some (.bx [.v (.int .i64 f.kind), .v (.string f.a), .v (.string f.b), .v (.string f.c), .v (.int .i64 f.n_), .d (.sl (List.map eS f.l)) true, .v (.int .i64 f.at_)])) noHp, 1⟩) ?_ ?_
 ·refine ZT 1 ?_
  refine Z0 ?_;rcases zit E1 with ⟨c3, H4⟩ | ⟨c3, H4⟩
  ·refine Z1 c3 ?_
   obtain rfl := Zi H4;exact ⟨⟨true, rfl⟩, ZR [(0, 0)]⟩
  ·refine Z1 c3 ?_
   obtain rfl := Zi H4;exact ⟨⟨(f.kind == 7), rfl⟩, ZR [(0, 0)]⟩
 ·rintro ⟨t5, he25⟩
  obtain rfl := he25.symm;try dsimp only at H2
  refine ZT 3 ?_;refine Z0 ?_;rcases zit H2 with ⟨c5, H6⟩ | ⟨c5, H6⟩
  ·obtain ⟨l, b7, H8⟩ := zbi H6
   obtain ⟨h9, h10⟩ := qj_ b7;have h9 : 1 + f.l.length ≤ 4294967296 := h9;have h11 : [[.v (.string f.a)]] ++ List.map eS f.l = List.map eS l := qm_ eS h10;have h12 : 1 + f.l.length = l.length := qn_ h10;have h13 : l.length ≤ 4294967296 := by omega
   have q14 : 0 < l.length := by omega
   simp only [List.cons_append, List.nil_append] at h11;refine Z1 (Y2 (Y6 c5 (qx_ (f := eS) (fun _ => rfl) f.l) (qF_ (n := 1) (f := eS) (fun _ => rfl) f.l) h9 h11 h12) h13) ?_;obtain rfl := Zi H8;exact ZE1 (Y2 (Y6 c5 (qx_ (f := eS) (fun _ => rfl) f.l) (qF_ (n := 1) (f := eS) (fun _ => rfl) f.l) h9 h11 h12) h13)
  ·refine Z1 c5 ?_
   rcases zit H6 with ⟨c15, H16⟩ | ⟨c15, H16⟩
   ·obtain ⟨l2, b17, H18⟩ := zbi H16
    obtain ⟨h19, h20⟩ := qj_ b17;have h19 : 2 + f.l.length ≤ 4294967296 := h19;have h21 : [[.v (.string f.a)], [.v (.string f.b)]] ++ List.map eS f.l = List.map eS l2 := qm_ eS h20;have h22 : 2 + f.l.length = l2.length := qn_ h20;have h23 : l2.length ≤ 4294967296 := by omega
    have q24 : 0 < l2.length := by omega
    simp only [List.cons_append, List.nil_append] at h21;refine Z1 (Y2 (Y6 c5 c15 (qx_ (f := eS) (fun _ => rfl) f.l) (qF_ (n := 1) (f := eS) (fun _ => rfl) f.l) h19 h21) (Y2 h22 h23)) ?_;obtain rfl := Zi H18;exact ZE1 (Y2 (Y6 c5 c15 (qx_ (f := eS) (fun _ => rfl) f.l) (qF_ (n := 1) (f := eS) (fun _ => rfl) f.l) h19 h21) (Y2 h22 h23))
   ·refine Z1 (Y2 c5 c15) ?_
    obtain rfl := Zi H16;exact ZE1 (Y2 c5 c15)
def jR_ (n : Nat) (a : GFact) (b : GFact) : Option Bool :=
 (if (a.kind != b.kind) then
  some (decide (a.kind < b.kind))
 else
  (
   (if (a.a.toList == b.a.toList) then
    some (a.n_ != b.n_)
   else
    some false) : Option (Bool)).bind fun t26 =>
  (if t26 then
   some (decide (a.n_ < b.n_))
  else
   (vF_ n a).bind fun t33 =>
   (vF_ n b).bind fun t35 =>
   (xx_ n t33 t35).bind fun t36 =>
   some t36))
theorem vG_ {n : Nat} {a : GFact} {b : GFact} {r : Bool} (H : jR_ n a b = some r) : PureOK Tryz.prog 73 [D.ag (eGFact a), D.ag (eGFact b)] (D.v (.bool r)) true := by
 unfold jR_ at H;refine ZP qo_ fol (rs := #[.tmp 4]) Tryz.func73 ?_;refine zsq (ZT 1 ?_);refine Z0 ?_;refine zsq (ZT 1 ?_);refine Z0 ?_;rcases zit H with ⟨c1, H2⟩ | ⟨c1, H2⟩
 ·refine Z1 c1 ?_
  obtain rfl := Zi H2;exact ZE0
 ·refine Z1 c1 ?_
  refine zsq (zsq ?_);obtain ⟨e_, E3, H4⟩ := zbi H2
  refine zjn (α := { y : Bool // e_ = y }) (fun | ⟨t26, _⟩ => ⟨upd 2 (.pt 0 0) (upd 3 (.pt 1 0) (upd 26 (.v (.bool t26)) noFr)), upd 0 (some (.bx [.v (.int .i64 a.kind), .v (.string a.a), .v (.string a.b), .v (.string a.c), .v (.int .i64 a.n_), .d (.sl (List.map eS a.l)) true, .v (.int .i64 a.at_)])) (upd 1 (some (.bx [.v (.int .i64 b.kind), .v (.string b.a), .v (.string b.b), .v (.string b.c), .v (.int .i64 b.n_), .d (.sl (List.map eS b.l)) true, .v (.int .i64 b.at_)])) noHp), 2⟩) ?_ ?_
  ·refine ZT 1 ?_
   refine Z0 ?_;rcases zit E3 with ⟨c5, H6⟩ | ⟨c5, H6⟩
   ·refine Z1 c5 ?_
    obtain rfl := Zi H6;exact ⟨⟨(a.n_ != b.n_), rfl⟩, ZR [(0, 0), (1, 1)]⟩
   ·refine Z1 c5 ?_
    obtain rfl := Zi H6;exact ⟨⟨false, rfl⟩, ZR [(0, 0), (1, 1)]⟩
  ·rintro ⟨t26, he15⟩
   obtain rfl := he15.symm;try dsimp only at H4
   refine ZT 2 ?_;refine Z0 ?_;rcases zit H4 with ⟨c7, H8⟩ | ⟨c7, H8⟩
   ·refine Z1 c7 ?_
    obtain rfl := Zi H8;exact ZE0
   ·obtain ⟨t33, b9, H10⟩ := zbi H8
    refine Z1 c7 ?_;refine ZD0 (ya_ b9) ?_;obtain ⟨t35, b11, H12⟩ := zbi H10;refine Z1 c7 ?_;refine ZD0 (ya_ b11) ?_;obtain ⟨t36, b13, H14⟩ := zbi H12;refine Z1 c7 ?_;refine ZD0 (kr_ b13) ?_;refine Z1 c7 ?_;refine qf_ (by rfl) ?_;refine Z1 c7 ?_;obtain rfl := Zi H14;exact ZE0
def xM_ (n : Nat) (l : List ByteArray) (s : ByteArray) : Nat → Int → Option ((Unit) ⊕ Bool)
 | 0, _ => none
 | c + 1, i =>
  (if (decide (i < (l.length : Int))) then
   (idx l i).bind fun x2 =>
   (if (x2.toList == s.toList) then
    some (.inr true)
   else
    xM_ n l s c (IntKind.i64.wrap (i + 1)))
  else
   some (.inl ()))
def vQ_ (n : Nat) (l : List ByteArray) (s : ByteArray) : Option Bool :=
 (
  xM_ n l s n 0 : Option ((Unit) ⊕ Bool)).bind fun
  | .inl _ =>
   some false
  | .inr r => some r
theorem wO_ {n : Nat} {l : List ByteArray} {s : ByteArray} {r : Bool} (H : vQ_ n l s = some r) : PureOK Tryz.prog 38 [D.sl (List.map eS l), D.v (.string s)] (D.v (.bool r)) true := by
 unfold vQ_ at H;refine ZP qo_ fol (rs := #[.tmp 4]) Tryz.func38 ?_;refine zsq (ZT 1 ?_);refine Z0 ?_;refine zsq (zsq ?_);refine ZT 1 ?_;refine Z0 ?_;obtain ⟨e_, E1, H2⟩ := zbi H;refine zjn (α := { y : Unit // e_ = .inl y }) (fun | ⟨_, _⟩ => ⟨noFr, noHp, 0⟩) ?_ ?_
 ·refine zbk ?_
  refine zlp (α := { q : Nat × Int // xM_ n l s q.1 q.2 = some e_ }) (fun | ⟨⟨c, i⟩, _⟩ => ⟨upd 0 (.d (.sl (List.map eS l)) true) (upd 1 (.v (.string s)) (upd 5 (.v (.int .i64 i)) noFr)), noHp, 0⟩) (fun q => q.1.1) ⟨(n, 0), E1⟩ ?_ ?_
  ·exact ZR []
  ·rintro ⟨⟨c, i⟩, L3⟩
   rcases c with _ | c
   ·exact Zx L3
   ·unfold xM_ at L3
    try dsimp only at L3
    refine ZT 1 ?_;refine Z0 ?_;rcases zit L3 with ⟨c14, H15⟩ | ⟨c14, H15⟩
    ·obtain ⟨x2, b16, H17⟩ := zbi H15
     obtain ⟨h18, h19⟩ := zix b16;try simp only [Int.reduceToNat, Int.toNat_natCast] at h19
     have h20 := qi_ eS h19;refine Z1 (Y3 c14 (zno .i64 h18) h20) ?_;rcases zit H17 with ⟨c22, H23⟩ | ⟨c22, H23⟩
     ·refine Z1 (Y4 c14 (zno .i64 h18) h20 c22) ?_
      obtain rfl := Zi H23;obtain rfl := Zi H2;exact ZE0
     ·refine Z1 (Y4 c14 (zno .i64 h18) h20 c22) ?_
      exact ⟨⟨(c, (IntKind.i64.wrap (i + 1))), H23⟩, ZR [], Nat.lt_succ_self _⟩
    ·refine Z1 c14 ?_
     obtain rfl := Zi H15;exact ⟨⟨(), rfl⟩, ZR []⟩
 ·rintro ⟨_, he24⟩
  obtain rfl := he24.symm;try dsimp only at H2
  refine ZT 1 ?_;refine Z0 ?_;obtain rfl := Zi H2;exact ZE0
def qO_ (n : Nat) (l : List GPair) (but : Int) (i : Int) : Nat → (Bool × List ByteArray × Int) → Option (Bool × List ByteArray)
 | 0, _ => none
 | c + 1, (up9, out5, k4) =>
  (if (decide (k4 < (l.length : Int))) then
   (idx l k4).bind fun x6 =>
   (
    (if up9 then
     some (true, x6.b, x6.a)
    else
     some (false, x6.a, x6.b)) : Option (Bool × ByteArray × ByteArray)).bind fun (up10, a4, b4) =>
   (if (k4 != but) then
    (idx out5 i).bind fun x7 =>
    (if (a4.toList == x7.toList) then
     (vQ_ n out5 b4).bind fun t554 =>
     (if t554 then
      qO_ n l but i c (up10, out5, (IntKind.i64.wrap (k4 + 1)))
     else
      (app out5 [b4]).bind fun l4 =>
      qO_ n l but i c (up10, l4, (IntKind.i64.wrap (k4 + 1))))
    else
     qO_ n l but i c (up10, out5, (IntKind.i64.wrap (k4 + 1))))
   else
    qO_ n l but i c (up10, out5, (IntKind.i64.wrap (k4 + 1))))
  else
   some (up9, out5))
def jS_ (n : Nat) (l : List GPair) (but : Int) : Nat → (Bool × List ByteArray × Int) → Option (List ByteArray)
 | 0, _ => none
 | c + 1, (up7, out4, i) =>
  (if (decide (i < (out4.length : Int))) then
   (
    qO_ n l but i n (up7, out4, 0) : Option (Bool × List ByteArray)).bind fun (up12, out7) =>
   jS_ n l but c (up12, out7, (IntKind.i64.wrap (i + 1)))
  else
   some out4)
def xb_ (n : Nat) (l : List GPair) (role : ByteArray) (up : Bool) (but : Int) : Option (List ByteArray) :=
 (
  jS_ n l but n (up, [role], 0) : Option (List ByteArray)).bind fun out9 =>
 (xQ_ n out9).bind fun t63 =>
 some t63
theorem zl_ {n : Nat} {l : List GPair} {role : ByteArray} {up : Bool} {but : Int} {r : List ByteArray} (H : xb_ n l role up but = some r) : PureOK Tryz.prog 39 [D.sl (List.map eGPair l), D.v (.string role), D.v (.bool up), D.v (.int .i64 but)] (D.sl (List.map eS r)) true := by
 unfold xb_ at H;refine ZP qo_ fol (rs := #[.tmp 8]) Tryz.func39 ?_;refine zsq (ZT 1 ?_);refine Z0 ?_;refine zsq (ZT 1 ?_);refine Z0 ?_;refine zsq (zsq ?_);refine ZT 1 ?_;refine Z0 ?_;obtain ⟨e_, E1, H2⟩ := zbi H
 refine zjn (α := { y : List ByteArray // e_ = y } × Nat) (fun | ⟨⟨out9, _⟩, g9⟩ => ⟨upd 9 (.so 0 g9 0 (out9.length)) noFr, upd 0 (some (.rw (List.map eS out9) 1 g9 false false)) noHp, 1⟩) ?_ ?_
 ·refine zbk ?_
  refine zlp (α := { q : (Nat × (Bool × List ByteArray × Int)) × Nat // jS_ n l but q.1.1 q.1.2 = some e_ }) (fun | ⟨⟨⟨c, ⟨up7, out4, i⟩⟩, g4⟩, _⟩ => ⟨upd 0 (.d (.sl (List.map eGPair l)) true) (upd 2 (.v (.bool up7)) (upd 3 (.v (.int .i64 but)) (upd 9 (.so 0 g4 0 (out4.length)) (upd 10 (.v (.int .i64 i)) noFr)))), upd 0 (some (.rw (List.map eS out4) 1 g4 false false)) noHp, 1⟩) (fun q => q.1.1.1) ⟨((n, (up, [role], 0)), 0), E1⟩ ?_ ?_
  ·exact ZR [(0, 2)]
  ·rintro ⟨⟨⟨c, ⟨up7, out4, i⟩⟩, g4⟩, L3⟩
   rcases c with _ | c
   ·exact Zx L3
   ·unfold jS_ at L3
    try dsimp only at L3
    refine zsq (ZT 1 ?_);refine Z0 ?_;rcases zit L3 with ⟨c64, H65⟩ | ⟨c64, H65⟩
    ·refine Z1 c64 ?_
     refine zsq (zbk ?_);refine zsq (ZT 1 ?_);refine Z1 c64 ?_;obtain ⟨e_5, E66, H67⟩ := zbi H65
     refine zjn (α := { y : Bool × List ByteArray // e_5 = y } × Nat) (fun | ⟨⟨⟨up12, out7⟩, _⟩, g7⟩ => ⟨upd 0 (.d (.sl (List.map eGPair l)) true) (upd 2 (.v (.bool up12)) (upd 3 (.v (.int .i64 but)) (upd 9 (.so 0 g7 0 (out7.length)) (upd 10 (.v (.int .i64 i)) noFr)))), upd 0 (some (.rw (List.map eS out7) 1 g7 false false)) noHp, 1⟩) ?_ ?_
     ·refine zbk ?_
      refine zlp (α := { q : (Nat × (Bool × List ByteArray × Int)) × Nat // qO_ n l but i q.1.1 q.1.2 = some e_5 }) (fun | ⟨⟨⟨c, ⟨up9, out5, k4⟩⟩, g5⟩, _⟩ => ⟨upd 0 (.d (.sl (List.map eGPair l)) true) (upd 2 (.v (.bool up9)) (upd 3 (.v (.int .i64 but)) (upd 9 (.so 0 g5 0 (out5.length)) (upd 10 (.v (.int .i64 i)) (upd 11 (.v (.int .i64 k4)) noFr))))), upd 0 (some (.rw (List.map eS out5) 1 g5 false false)) noHp, 1⟩) (fun q => q.1.1.1) ⟨((n, (up7, out4, 0)), g4), E66⟩ ?_ ?_
      ·exact ZR [(0, 0)]
      ·rintro ⟨⟨⟨c, ⟨up9, out5, k4⟩⟩, g5⟩, L68⟩
       rcases c with _ | c
       ·exact Zx L68
       ·unfold qO_ at L68
        try dsimp only at L68
        refine zsq (ZT 1 ?_);refine Z0 ?_;rcases zit L68 with ⟨c104, H105⟩ | ⟨c104, H105⟩
        ·refine Z1 c104 ?_
         refine zsq (zbk ?_);refine zsq (ZT 1 ?_);obtain ⟨x6, b106, H107⟩ := zbi H105;obtain ⟨h108, h109⟩ := zix b106;try simp only [Int.reduceToNat, Int.toNat_natCast] at h109
         have h110 := qi_ eGPair h109;refine Z1 (Y3 c104 (zno .i64 h108) h110) ?_;refine qf_ (by rfl) ?_;refine Z1 (Y3 c104 (zno .i64 h108) h110) ?_;refine zsq (zsq ?_);refine ZT 1 ?_;refine Z1 (Y3 c104 (zno .i64 h108) h110) ?_;obtain ⟨e_7, E112, H113⟩ := zbi H107
         refine zjn (α := { y : Bool × ByteArray × ByteArray // e_7 = y }) (fun | ⟨⟨up10, a4, b4⟩, _⟩ => ⟨upd 0 (.d (.sl (List.map eGPair l)) true) (upd 2 (.v (.bool up10)) (upd 3 (.v (.int .i64 but)) (upd 9 (.so 0 g5 0 (out5.length)) (upd 10 (.v (.int .i64 i)) (upd 11 (.v (.int .i64 k4)) (upd 12 (.v (.string a4)) (upd 13 (.v (.string b4)) noFr))))))), upd 0 (some (.rw (List.map eS out5) 1 g5 false false)) noHp, 1⟩) ?_ ?_
         ·refine ZT 1 ?_
          refine Z0 ?_;rcases zit E112 with ⟨c114, H115⟩ | ⟨c114, H115⟩
          ·refine Z1 c114 ?_
           obtain rfl := Zi H115;exact ⟨⟨(true, x6.b, x6.a), rfl⟩, ZR [(0, 0)]⟩
          ·refine Z1 c114 ?_
           obtain rfl := Zi H115;exact ⟨⟨(false, x6.a, x6.b), rfl⟩, ZR [(0, 0)]⟩
         ·rintro ⟨⟨up10, a4, b4⟩, he138⟩
          obtain rfl := he138.symm;try dsimp only at H113
          refine ZT 3 ?_;refine Z0 ?_;rcases zit H113 with ⟨c116, H117⟩ | ⟨c116, H117⟩
          ·obtain ⟨x7, b118, H119⟩ := zbi H117
           obtain ⟨h120, h121⟩ := zix b118;try simp only [Int.reduceToNat, Int.toNat_natCast] at h121
           have h122 := qi_ eS h121;have h123 := zN_ h121;refine Z1 (Y4 c116 (zno .i64 h120) h122 h123) ?_;rcases zit H119 with ⟨c124, H125⟩ | ⟨c124, H125⟩
           ·obtain ⟨t554, b126, H127⟩ := zbi H125
            refine Z1 (Y5 c116 (zno .i64 h120) h122 h123 c124) ?_;refine ZC1 (Y5 c116 (zno .i64 h120) h122 h123 c124) (wO_ b126) ?_;refine Z1 (Y5 c116 (zno .i64 h120) h122 h123 c124) ?_;rcases zit H127 with ⟨c128, H129⟩ | ⟨c128, H129⟩
            ·refine Z1 (Y6 c116 (zno .i64 h120) h122 h123 c124 c128) ?_
             exact ⟨⟨((c, (up10, out5, (IntKind.i64.wrap (k4 + 1)))), g5), H129⟩, ZR [(0, 0)], Nat.lt_succ_self _⟩
            ·obtain ⟨l4, b130, H131⟩ := zbi H129
             obtain ⟨h132, h133⟩ := qj_ b130;have h132 : out5.length + 1 ≤ 4294967296 := h132;have h134 : List.map eS out5 ++ [[.v (.string b4)]] = List.map eS l4 := qm_ eS h133;have h135 : out5.length + 1 = l4.length := qn_ h133;have h136 : l4.length ≤ 4294967296 := by omega
             have q137 : 0 < l4.length := by omega
             refine Z1 (Y2 (Y6 c116 (zno .i64 h120) h122 h123 c124 c128) (Y4 h132 h134 h135 h136)) ?_;exact ⟨⟨((c, (up10, l4, (IntKind.i64.wrap (k4 + 1)))), (g5 + 1)), H131⟩, ZR [(0, 0)], Nat.lt_succ_self _⟩
           ·refine Z1 (Y5 c116 (zno .i64 h120) h122 h123 c124) ?_
            exact ⟨⟨((c, (up10, out5, (IntKind.i64.wrap (k4 + 1)))), g5), H125⟩, ZR [(0, 0)], Nat.lt_succ_self _⟩
          ·refine Z1 c116 ?_
           exact ⟨⟨((c, (up10, out5, (IntKind.i64.wrap (k4 + 1)))), g5), H117⟩, ZR [(0, 0)], Nat.lt_succ_self _⟩
        ·refine Z1 c104 ?_
         obtain rfl := Zi H105;exact ⟨⟨⟨(up9, out5), rfl⟩, g5⟩, ZR [(0, 0)]⟩
     ·rintro ⟨⟨⟨up12, out7⟩, he139⟩, g7⟩
      obtain rfl := he139.symm;try dsimp only at H67
      refine Z0 ?_;refine ZT 1 ?_;refine Z0 ?_;exact ⟨⟨((c, (up12, out7, (IntKind.i64.wrap (i + 1)))), g7), H67⟩, ZR [(0, 0)], Nat.lt_succ_self _⟩
    ·refine Z1 c64 ?_
     obtain rfl := Zi H65;exact ⟨⟨⟨out4, rfl⟩, g4⟩, ZR [(0, 0)]⟩
 ·rintro ⟨⟨out9, he142⟩, g9⟩
  obtain rfl := he142.symm;try dsimp only at H2
  refine ZT 1 ?_;obtain ⟨t63, b140, H141⟩ := zbi H2;refine Z0 ?_;refine ZC0 (kq_ b140) ?_;refine Z0 ?_;obtain rfl := Zi H141;exact ZE0
def xc_ (n : Nat) (l : List GPair) : Nat → Int → Option ((Unit) ⊕ Bool)
 | 0, _ => none
 | c + 1, i =>
  (if (decide (i < (l.length : Int))) then
   (idx l i).bind fun x2 =>
   (xb_ n l x2.b false (-1)).bind fun t162 =>
   (vQ_ n t162 x2.a).bind fun t222 =>
   (if t222 then
    some (.inr true)
   else
    xc_ n l c (IntKind.i64.wrap (i + 1)))
  else
   some (.inl ()))
def zF_ (n : Nat) (l : List GPair) : Option Bool :=
 (
  xc_ n l n 0 : Option ((Unit) ⊕ Bool)).bind fun
  | .inl _ =>
   some false
  | .inr r => some r
theorem g2_ {n : Nat} {l : List GPair} {r : Bool} (H : zF_ n l = some r) : PureOK Tryz.prog 37 [D.sl (List.map eGPair l)] (D.v (.bool r)) true := by
 unfold zF_ at H;refine ZP qo_ fol (rs := #[.tmp 2]) Tryz.func37 ?_;refine zsq (ZT 1 ?_);refine Z0 ?_;refine zsq (zsq ?_);refine ZT 1 ?_;refine Z0 ?_;obtain ⟨e_, E1, H2⟩ := zbi H;refine zjn (α := { y : Unit // e_ = .inl y }) (fun | ⟨_, _⟩ => ⟨noFr, noHp, 0⟩) ?_ ?_
 ·refine zbk ?_
  refine zlp (α := { q : Nat × Int // xc_ n l q.1 q.2 = some e_ }) (fun | ⟨⟨c, i⟩, _⟩ => ⟨upd 0 (.d (.sl (List.map eGPair l)) true) (upd 3 (.v (.int .i64 i)) noFr), noHp, 0⟩) (fun q => q.1.1) ⟨(n, 0), E1⟩ ?_ ?_
  ·exact ZR []
  ·rintro ⟨⟨c, i⟩, L3⟩
   rcases c with _ | c
   ·exact Zx L3
   ·unfold xc_ at L3
    try dsimp only at L3
    refine ZT 1 ?_;refine Z0 ?_;rcases zit L3 with ⟨c18, H19⟩ | ⟨c18, H19⟩
    ·obtain ⟨x2, b20, H21⟩ := zbi H19
     obtain ⟨h22, h23⟩ := zix b20;try simp only [Int.reduceToNat, Int.toNat_natCast] at h23
     have h24 := qi_ eGPair h23;obtain ⟨t162, b26, H27⟩ := zbi H21;refine Z1 (Y3 c18 (zno .i64 h22) h24) ?_;refine ZD0 (zl_ b26) ?_;obtain ⟨t222, b28, H29⟩ := zbi H27;refine Z1 (Y3 c18 (zno .i64 h22) h24) ?_;refine ZD0 (wO_ b28) ?_;refine Z1 (Y3 c18 (zno .i64 h22) h24) ?_;refine qf_ (by rfl) ?_;refine Z1 (Y3 c18 (zno .i64 h22) h24) ?_;rcases zit H29 with ⟨c30, H31⟩ | ⟨c30, H31⟩
     ·refine Z1 (Y4 c18 (zno .i64 h22) h24 c30) ?_
      obtain rfl := Zi H31;obtain rfl := Zi H2;exact ZE0
     ·refine Z1 (Y4 c18 (zno .i64 h22) h24 c30) ?_
      exact ⟨⟨(c, (IntKind.i64.wrap (i + 1))), H31⟩, ZR [], Nat.lt_succ_self _⟩
    ·refine Z1 c18 ?_
     obtain rfl := Zi H19;exact ⟨⟨(), rfl⟩, ZR []⟩
 ·rintro ⟨_, he32⟩
  obtain rfl := he32.symm;try dsimp only at H2
  refine ZT 1 ?_;refine Z0 ?_;obtain rfl := Zi H2;exact ZE0
end Go.Proofs.YtkkhgdmmbhpckaaGreat.Ab
