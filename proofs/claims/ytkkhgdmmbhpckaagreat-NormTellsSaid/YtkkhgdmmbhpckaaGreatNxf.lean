/-
 Functions, read off the code.
-/
import Derived.Test.YtkkhgdmmbhpckaaGreatNxe
namespace Go.Proofs.YtkkhgdmmbhpckaaGreat.Ab
open Go.RowKit
def qV_ (n : Nat) (t1 : List Int) : Nat → (ByteArray × List GFact × Int) → Option ((Unit) ⊕ Bool)
 | 0, _ => none
 | c + 1, (t22, t7, t8) =>
  (if (decide (t8 < 2)) then
   (vO_ n t7).bind fun t262 =>
   (ve_ n t7).bind fun t282 =>
   (
    (zf_ n t262 t282).bind fun t312 =>
    (if t312 then
     (zE_ n t282).bind fun t352 =>
     (xL_ n t282).bind fun t372 =>
     (q2_ n t352 t372).bind fun t382 =>
     (if t382 then
      (xK_ n t282).bind fun t432 =>
      (jJ_ n t282).bind fun t452 =>
      (zf_ n t432 t452).bind fun t462 =>
      (if t462 then
       (jJ_ n t282).bind fun t522 =>
       (z3_ n t282 t522).bind fun t532 =>
       (jJ_ n t282).bind fun t562 =>
       (zf_ n t282 t562).bind fun t572 =>
       some (!(t532 == t572))
      else
       some true)
     else
      some true)
    else
     some true) : Option (Bool)).bind fun t592 =>
   (if t592 then
    some (.inr false)
   else
    (
     (zU_ n t282 t22).bind fun t622 =>
     (vH_ n t282 t22).bind fun t652 =>
     (qJ_ n t622 t652).bind fun t662 =>
     (if t662 then
      (wN_ n t282 t22).bind fun t712 =>
      (ks_ n t282 t22).bind fun t742 =>
      (qJ_ n t712 t742).bind fun t752 =>
      some (!t752)
     else
      some true) : Option (Bool)).bind fun t772 =>
    (if t772 then
     some (.inr false)
    else
     (zI_ n t1 true).bind fun t802 =>
     (zg_ n t802).bind fun t812 =>
     (idx ([{ data := #[114] }, { data := #[115] }, { data := #[116] }, { data := #[113] }, { data := #[122] }] : List ByteArray) (Int.tmod (t1.length : Int) 5)).bind fun x2 =>
     qV_ n t1 c (x2, t812.1, (IntKind.i64.wrap (t8 + 1)))))
  else
   some (.inl ()))
def xy_ (n : Nat) (t0 : List GFact) (t1 : List Int) (t2 : ByteArray) : Option Bool :=
 (
  (z4_ n t0).bind fun t12 =>
  (if t12 then
   some (decide (100 < (t2.size : Int)))
  else
   some true) : Option (Bool)).bind fun t18 =>
 (if t18 then
  (ze_ n).bind fun t19 =>
  some t19
 else
  (
   qV_ n t1 n (t2, t0, 0) : Option ((Unit) ⊕ Bool)).bind fun
   | .inl _ =>
    (ze_ n).bind fun t91 =>
    some t91
   | .inr r => some r)
set_option maxHeartbeats 8000000 in
theorem law14_NormTells_ok {n : Nat} {t0 : List GFact} {t1 : List Int} {t2 : ByteArray} {r : Bool} (H : xy_ n t0 t1 t2 = some r) : PureOK Tryz.prog 4 [D.sl (List.map eGFact t0), D.sl (List.map eI t1), D.v (.string t2)] (D.v (.bool r)) true := by
 unfold xy_ at H;refine ZP qo_ fol (rs := #[.tmp 6]) Tryz.func4 ?_;refine zsq (ZT 1 ?_);refine Z0 ?_;refine zsq (zsq ?_);obtain ⟨e_, E1, H2⟩ := zbi H;refine zjn (α := { y : Bool // e_ = y }) (fun | ⟨t18, _⟩ => ⟨upd 0 (.d (.sl (List.map eGFact t0)) true) (upd 1 (.d (.sl (List.map eI t1)) true) (upd 2 (.v (.string t2)) (upd 18 (.v (.bool t18)) noFr))), noHp, 0⟩) ?_ ?_
 ·refine ZT 1 ?_
  obtain ⟨t12, b3, H4⟩ := zbi E1;refine Z0 ?_;refine ZC0 (uI_ b3) ?_;refine Z0 ?_;rcases zit H4 with ⟨c5, H6⟩ | ⟨c5, H6⟩
  ·refine Z1 c5 ?_
   obtain rfl := Zi H6;exact ⟨⟨(decide (100 < (t2.size : Int))), rfl⟩, ZR []⟩
  ·refine Z1 c5 ?_
   obtain rfl := Zi H6;exact ⟨⟨true, rfl⟩, ZR []⟩
 ·rintro ⟨t18, he151⟩
  obtain rfl := he151.symm;try dsimp only at H2
  refine ZT 1 ?_;refine Z0 ?_;rcases zit H2 with ⟨c7, H8⟩ | ⟨c7, H8⟩
  ·obtain ⟨t19, b9, H10⟩ := zbi H8
   refine Z1 c7 ?_;refine ZC0 (wx_ b9) ?_;refine Z1 c7 ?_;obtain rfl := Zi H10;exact ZE0
  ·refine Z1 c7 ?_
   refine zsq (ZT 1 ?_);refine Z1 c7 ?_;refine zsq (zsq ?_);refine ZT 1 ?_;refine Z1 c7 ?_;obtain ⟨e_2, E11, H12⟩ := zbi H8;refine zjn (α := { y : Unit // e_2 = .inl y }) (fun | ⟨_, _⟩ => ⟨noFr, noHp, 0⟩) ?_ ?_
   ·refine zbk ?_
    refine zlp (α := { q : Nat × (ByteArray × List GFact × Int) // qV_ n t1 q.1 q.2 = some e_2 }) (fun | ⟨⟨c, ⟨t22, t7, t8⟩⟩, _⟩ => ⟨upd 1 (.d (.sl (List.map eI t1)) true) (upd 2 (.v (.string t22)) (upd 7 (.d (.sl (List.map eGFact t7)) true) (upd 8 (.v (.int .i64 t8)) noFr))), noHp, 0⟩) (fun q => q.1.1) ⟨(n, (t2, t0, 0)), E11⟩ ?_ ?_
    ·exact ZR []
    ·rintro ⟨⟨c, ⟨t22, t7, t8⟩⟩, L13⟩
     rcases c with _ | c
     ·exact Zx L13
     ·unfold qV_ at L13
      try dsimp only at L13
      refine zsq (ZT 1 ?_);refine Z0 ?_;rcases zit L13 with ⟨c80, H81⟩ | ⟨c80, H81⟩
      ·refine Z1 c80 ?_
       refine zsq (zbk ?_);refine zsq (ZT 1 ?_);obtain ⟨t262, b82, H83⟩ := zbi H81;refine Z1 c80 ?_;refine ZC0 (gc_ b82) ?_;obtain ⟨t282, b84, H85⟩ := zbi H83;refine Z1 c80 ?_;refine ZC0 (uo_ b84) ?_;refine Z1 c80 ?_;refine zsq (zsq ?_);obtain ⟨e_5, E86, H87⟩ := zbi H85
       refine zjn (α := { y : Bool // e_5 = y }) (fun | ⟨t592, _⟩ => ⟨upd 1 (.d (.sl (List.map eI t1)) true) (upd 2 (.v (.string t22)) (upd 8 (.v (.int .i64 t8)) (upd 10 (.pt 0 0) (upd 59 (.v (.bool t592)) noFr)))), upd 0 (some (.bx [.d (.sl (List.map eS t282.users)) false, .d (.sl (List.map eS t282.roles)) false, .d (.sl (List.map eGPair t282.inherit)) false, .d (.sl (List.map eGPair t282.assign)) false, .d (.sl (List.map eGGrant t282.grants)) false, .d (.sl (List.map eGSod t282.ssd)) false, .d (.sl (List.map eGSod t282.dsd)) false, .d (.sl (List.map eGSession t282.sessions)) false])) noHp, 1⟩) ?_ ?_
       ·refine ZT 1 ?_
        obtain ⟨t312, b88, H89⟩ := zbi E86;refine Z0 ?_;refine ZD0 (vP_ b88) ?_;refine Z0 ?_;rcases zit H89 with ⟨c90, H91⟩ | ⟨c90, H91⟩
        ·obtain ⟨t352, b92, H93⟩ := zbi H91
         refine Z1 c90 ?_;refine ZD0 (ko_ b92) ?_;obtain ⟨t372, b94, H95⟩ := zbi H93;refine Z1 c90 ?_;refine ZD0 (vo_ b94) ?_;obtain ⟨t382, b96, H97⟩ := zbi H95;refine Z1 c90 ?_;refine ZD0 (vf_ b96) ?_;refine Z1 c90 ?_;rcases zit H97 with ⟨c98, H99⟩ | ⟨c98, H99⟩
         ·obtain ⟨t432, b100, H101⟩ := zbi H99
          refine Z1 (Y2 c90 c98) ?_;refine ZD0 (ww_ b100) ?_;obtain ⟨t452, b102, H103⟩ := zbi H101;refine Z1 (Y2 c90 c98) ?_;refine ZD0 (z5_ b102) ?_;obtain ⟨t462, b104, H105⟩ := zbi H103;refine Z1 (Y2 c90 c98) ?_;refine ZD0 (vP_ b104) ?_;refine Z1 (Y2 c90 c98) ?_;rcases zit H105 with ⟨c106, H107⟩ | ⟨c106, H107⟩
          ·obtain ⟨t522, b108, H109⟩ := zbi H107
           refine Z1 (Y3 c90 c98 c106) ?_;refine ZD0 (z5_ b108) ?_;obtain ⟨t532, b110, H111⟩ := zbi H109;refine Z1 (Y3 c90 c98 c106) ?_;refine ZD0 (wh_ b110) ?_;obtain ⟨t562, b112, H113⟩ := zbi H111;refine Z1 (Y3 c90 c98 c106) ?_;refine ZD0 (z5_ b112) ?_;obtain ⟨t572, b114, H115⟩ := zbi H113;refine Z1 (Y3 c90 c98 c106) ?_;refine ZD0 (vP_ b114) ?_;refine Z1 (Y3 c90 c98 c106) ?_
           refine qf_ (by kernel_rfl) ?_;refine Z1 (Y3 c90 c98 c106) ?_;obtain rfl := Zi H115;exact ⟨⟨(!(t532 == t572)), rfl⟩, ZR [(0, 7)]⟩
          ·refine Z1 (Y3 c90 c98 c106) ?_
           refine qf_ (by kernel_rfl) ?_;refine Z1 (Y3 c90 c98 c106) ?_;obtain rfl := Zi H107;exact ⟨⟨true, rfl⟩, ZR [(0, 7)]⟩
         ·refine Z1 (Y2 c90 c98) ?_
          refine qf_ (by kernel_rfl) ?_;refine Z1 (Y2 c90 c98) ?_;obtain rfl := Zi H99;exact ⟨⟨true, rfl⟩, ZR [(0, 7)]⟩
        ·refine Z1 c90 ?_
         refine qf_ (by kernel_rfl) ?_;refine Z1 c90 ?_;obtain rfl := Zi H91;exact ⟨⟨true, rfl⟩, ZR [(0, 7)]⟩
       ·rintro ⟨t592, he147⟩
        obtain rfl := he147.symm;try dsimp only at H87
        refine ZT 1 ?_;refine Z0 ?_;rcases zit H87 with ⟨c116, H117⟩ | ⟨c116, H117⟩
        ·refine Z1 c116 ?_
         obtain rfl := Zi H117;obtain rfl := Zi H12;exact ZE0
        ·refine Z1 c116 ?_
         refine zsq (zsq ?_);obtain ⟨e_6, E118, H119⟩ := zbi H117;refine zjn (α := { y : Bool // e_6 = y }) (fun | ⟨t772, _⟩ => ⟨upd 1 (.d (.sl (List.map eI t1)) true) (upd 8 (.v (.int .i64 t8)) (upd 77 (.v (.bool t772)) noFr)), noHp, 0⟩) ?_ ?_
         ·refine ZT 1 ?_
          obtain ⟨t622, b120, H121⟩ := zbi E118;refine Z0 ?_;refine ZD0 (k9_ b120) ?_;obtain ⟨t652, b122, H123⟩ := zbi H121;refine Z0 ?_;refine ZD0 (g3_ b122) ?_;obtain ⟨t662, b124, H125⟩ := zbi H123;refine Z0 ?_;refine ZD0 (jX_ b124) ?_;refine Z0 ?_;rcases zit H125 with ⟨c126, H127⟩ | ⟨c126, H127⟩
          ·obtain ⟨t712, b128, H129⟩ := zbi H127
           refine Z1 c126 ?_;refine ZD0 (ga_ b128) ?_;obtain ⟨t742, b130, H131⟩ := zbi H129;refine Z1 c126 ?_;refine ZD0 (dQ_ b130) ?_;obtain ⟨t752, b132, H133⟩ := zbi H131;refine Z1 c126 ?_;refine ZD0 (jX_ b132) ?_;refine Z1 c126 ?_;refine qf_ (by rfl) ?_;refine Z1 c126 ?_;obtain rfl := Zi H133;exact ⟨⟨(!t752), rfl⟩, ZR []⟩
          ·refine Z1 c126 ?_
           refine qf_ (by rfl) ?_;refine Z1 c126 ?_;obtain rfl := Zi H127;exact ⟨⟨true, rfl⟩, ZR []⟩
         ·rintro ⟨t772, he146⟩
          obtain rfl := he146.symm;try dsimp only at H119
          refine ZT 4 ?_;refine Z0 ?_;rcases zit H119 with ⟨c134, H135⟩ | ⟨c134, H135⟩
          ·refine Z1 c134 ?_
           obtain rfl := Zi H135;obtain rfl := Zi H12;exact ZE0
          ·obtain ⟨t802, b136, H137⟩ := zbi H135
           refine Z1 c134 ?_;refine ZC0 (bb_ b136) ?_;obtain ⟨t812, b138, H139⟩ := zbi H137;refine Z1 c134 ?_;refine ZAW0 (PureA.of_pure (uN_ b138)) ?_;obtain ⟨x2, b140, H141⟩ := zbi H139;obtain ⟨h142, h143⟩ := zix b140;try simp only [Int.reduceToNat, Int.toNat_natCast] at h143
           have h144 := qi_ eS h143;simp only [List.map_cons, List.map_nil, eS] at h144;have h145 := zN_ h143;simp only [List.length_cons, List.length_nil, Nat.reduceAdd] at h145;refine Z1 (Y4 c134 (zno .i64 h142) h144 h145) ?_;exact ⟨⟨(c, (x2, t812.1, (IntKind.i64.wrap (t8 + 1)))), H141⟩, ZR [], Nat.lt_succ_self _⟩
      ·refine Z1 c80 ?_
       obtain rfl := Zi H81;exact ⟨⟨(), rfl⟩, ZR []⟩
   ·rintro ⟨_, he150⟩
    obtain rfl := he150.symm;try dsimp only at H12
    refine ZT 1 ?_;obtain ⟨t91, b148, H149⟩ := zbi H12;refine Z0 ?_;refine ZC0 (wx_ b148) ?_;refine Z0 ?_;obtain rfl := Zi H149;exact ZE0
end Go.Proofs.YtkkhgdmmbhpckaaGreat.Ab
