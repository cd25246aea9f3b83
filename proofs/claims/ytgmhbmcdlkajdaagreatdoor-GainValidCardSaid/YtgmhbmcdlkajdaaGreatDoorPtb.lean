/-
 Functions, read off the code.
-/
import Derived.Test.YtgmhbmcdlkajdaaGreatDoorPta
namespace Go.Proofs.YtgmhbmcdlkajdaaGreatDoor.Ab
open Go.RowKit
def ref1_Texts_L1 (n : Nat) (t19 : List ByteArray) (t25 : List ByteArray) : Nat → (List ByteArray × Int × Int) → Option (List ByteArray)
 | 0, _ => none
 | c + 1, (t5, t6, t7) =>
  (
   (if (decide (t6 < (t19.length : Int))) then
    some true
   else
    some (decide (t7 < (t25.length : Int)))) : Option (Bool)).bind fun t352 =>
  (if t352 then
   (
    (if (t7 == (t25.length : Int)) then
     some true
    else
     (if (decide (t6 < (t19.length : Int))) then
      (idx t19 t6).bind fun x7 =>
      (idx t25 t7).bind fun x8 =>
      some (Op.bytesLess x7.toList x8.toList)
     else
      some false)) : Option (Bool)).bind fun t382 =>
   (if t382 then
    (idx t19 t6).bind fun x9 =>
    (app t5 [x9]).bind fun l4 =>
    ref1_Texts_L1 n t19 t25 c (l4, (IntKind.i64.wrap (t6 + 1)), t7)
   else
    (if (t6 == (t19.length : Int)) then
     (idx t25 t7).bind fun x10 =>
     (app t5 [x10]).bind fun l5 =>
     ref1_Texts_L1 n t19 t25 c (l5, t6, (IntKind.i64.wrap (t7 + 1)))
    else
     (idx t25 t7).bind fun x11 =>
     (idx t19 t6).bind fun x12 =>
     (if (Op.bytesLess x11.toList x12.toList) then
      (app t5 [x11]).bind fun l6 =>
      ref1_Texts_L1 n t19 t25 c (l6, t6, (IntKind.i64.wrap (t7 + 1)))
     else
      ref1_Texts_L1 n t19 t25 c (t5, (IntKind.i64.wrap (t6 + 1)), t7))))
  else
   some t5)
def ref1_Texts : Nat → (List ByteArray) → Option (List ByteArray)
 | 0, _ => none
 | n + 1, t0 =>
  (if (decide ((t0.length : Int) < 2)) then
   (app [] t0).bind fun _ =>
   some t0
  else
   (slc t0 0 (IntKind.i64.wrap (Int.tdiv (t0.length : Int) 2))).bind fun l2 =>
   ((ref1_Texts n) l2).bind fun t19 =>
   (slc t0 (IntKind.i64.wrap (Int.tdiv (t0.length : Int) 2)) ((List.length t0) : Int)).bind fun l3 =>
   ((ref1_Texts n) l3).bind fun t25 =>
   (
    ref1_Texts_L1 n t19 t25 n ([], 0, 0) : Option (List ByteArray)).bind fun t53 =>
   some t53)
set_option maxHeartbeats 8000000 in
theorem ref1_Texts_ok : ∀ {n : Nat} {t0 : List ByteArray} {r : List ByteArray}, ref1_Texts n t0 = some r → PureOK Tryz.prog 40 [D.sl (List.map eS t0)] (D.sl (List.map eS r)) true := by
 intro n
 induction n with
 | zero => intro t0 r H; exact Zx H
 | succ n ih =>
  intro t0 r H
  unfold ref1_Texts at H
  refine ZP tab_ok fol (rs := #[.tmp 2]) Tryz.func40 ?_
  refine zsq (ZT 1 ?_)
  refine Z0 ?_
  refine zsq (ZT 1 ?_)
  refine Z0 ?_
  rcases zit H with ⟨c1, H2⟩ | ⟨c1, H2⟩
  ·obtain ⟨l, b3, H4⟩ := zbi H2
   obtain ⟨h5, h6⟩ := app_inv b3
   have h6 : t0 = l := h6
   subst h6
   have h5 : t0.length ≤ 4294967296 := by have := h5; simpa using this
   refine Z1 (Y4 c1 (plainR_map (f := eS) (fun _ => rfl) t0) (chk_map (n := 1) (f := eS) (fun _ => rfl) t0) h5) ?_
   obtain rfl := Zi H4
   exact ZE1 (Y4 c1 (plainR_map (f := eS) (fun _ => rfl) t0) (chk_map (n := 1) (f := eS) (fun _ => rfl) t0) h5)
  ·refine Z1 c1 ?_
   refine zsq (ZT 1 ?_)
   obtain ⟨l2, b9, H10⟩ := zbi H2
   obtain ⟨h11, h12, h13, h14⟩ := slc_inv b9
   have h15 : 0 ≤ Int.toNat (IntKind.i64.wrap (Int.tdiv (t0.length : Int) 2)) := by omega
   have h16 : Int.toNat (IntKind.i64.wrap (Int.tdiv (t0.length : Int) 2)) ≤ (List.length t0) := by omega
   have h17 : List.take (Int.toNat (IntKind.i64.wrap (Int.tdiv (t0.length : Int) 2))) (List.map eS t0) = List.map eS l2 := by rw [h14]; simp [List.map_take]
   try simp only [Int.toNat_natCast] at h15 h16 h17
   obtain ⟨t19, b18, H19⟩ := zbi H10
   refine Z1 (Y6 c1 (zno .i64 (Int.le_trans h11 h12)) h15 h16 h17 (chk_map (n := 1) (f := eS) (fun _ => rfl) t0)) ?_
   refine ZD0 (ih b18) ?_
   obtain ⟨l3, b20, H21⟩ := zbi H19
   obtain ⟨h22, h23, h24, h25⟩ := slc_inv b20
   have h26 : Int.toNat (IntKind.i64.wrap (Int.tdiv (t0.length : Int) 2)) ≤ (List.length t0) := by omega
   have h27 : (List.length t0) ≤ (List.length t0) := by omega
   have h28 : List.drop (Int.toNat (IntKind.i64.wrap (Int.tdiv (t0.length : Int) 2))) (List.map eS t0) = List.map eS l3 := by rw [h25]; simp [List.map_drop]
   try simp only [Int.toNat_natCast] at h26 h27 h28
   obtain ⟨t25, b29, H30⟩ := zbi H21
   refine Z1 (Y2 (Y6 c1 (zno .i64 (Int.le_trans h11 h12)) h15 h16 h17 (chk_map (n := 1) (f := eS) (fun _ => rfl) t0)) (Y4 (zno .i64 h22) h26 h27 h28)) ?_
   refine ZD0 (ih b29) ?_
   refine Z1 (Y2 (Y6 c1 (zno .i64 (Int.le_trans h11 h12)) h15 h16 h17 (chk_map (n := 1) (f := eS) (fun _ => rfl) t0)) (Y4 (zno .i64 h22) h26 h27 h28)) ?_
   refine Rd_endF (by rfl) ?_
   refine Z1 (Y2 (Y6 c1 (zno .i64 (Int.le_trans h11 h12)) h15 h16 h17 (chk_map (n := 1) (f := eS) (fun _ => rfl) t0)) (Y4 (zno .i64 h22) h26 h27 h28)) ?_
   refine zsq (ZT 1 ?_)
   refine Z1 (Y2 (Y6 c1 (zno .i64 (Int.le_trans h11 h12)) h15 h16 h17 (chk_map (n := 1) (f := eS) (fun _ => rfl) t0)) (Y4 (zno .i64 h22) h26 h27 h28)) ?_
   refine zsq (ZT 1 ?_)
   refine Z1 (Y2 (Y6 c1 (zno .i64 (Int.le_trans h11 h12)) h15 h16 h17 (chk_map (n := 1) (f := eS) (fun _ => rfl) t0)) (Y4 (zno .i64 h22) h26 h27 h28)) ?_
   refine zsq ?_
   obtain ⟨e_, E31, H32⟩ := zbi H30
   refine zjn (α := { y : List ByteArray // e_ = y } × Nat) (fun | ⟨⟨t53, _⟩, g5⟩ => ⟨upd 5 (accV 0 g5 (List.map eS t53)) noFr, upd 0 (accO 1 g5 false (List.map eS t53)) noHp, 1⟩) ?_ ?_
   ·refine zbk ?_
    refine zlp (α := { q : (Nat × (List ByteArray × Int × Int)) × Nat // ref1_Texts_L1 n t19 t25 q.1.1 q.1.2 = some e_ }) (fun | ⟨⟨⟨c, ⟨t5, t6, t7⟩⟩, g⟩, _⟩ => ⟨upd 3 (.d (.sl (List.map eS t19)) false) (upd 4 (.d (.sl (List.map eS t25)) false) (upd 5 (accV 0 g (List.map eS t5)) (upd 6 (.v (.int .i64 t6)) (upd 7 (.v (.int .i64 t7)) noFr)))), upd 0 (accO 1 g false (List.map eS t5)) noHp, 1⟩) (fun q => q.1.1.1) ⟨((n, ([], 0, 0)), 0), E31⟩ ?_ ?_
    ·exact ZR []
    ·rintro ⟨⟨⟨c, ⟨t5, t6, t7⟩⟩, g⟩, L33⟩
     rcases c with _ | c
     ·exact Zx L33
     ·unfold ref1_Texts_L1 at L33
      try dsimp only at L33
      refine zsq (zsq ?_)
      obtain ⟨e_4, E90, H91⟩ := zbi L33
      refine zjn (α := { y : Bool // e_4 = y } × Nat) (fun | ⟨⟨t352, _⟩, g2⟩ => ⟨upd 3 (.d (.sl (List.map eS t19)) false) (upd 4 (.d (.sl (List.map eS t25)) false) (upd 5 (accV 0 g2 (List.map eS t5)) (upd 6 (.v (.int .i64 t6)) (upd 7 (.v (.int .i64 t7)) (upd 35 (.v (.bool t352)) noFr))))), upd 0 (accO 1 g2 false (List.map eS t5)) noHp, 1⟩) ?_ ?_
      ·refine ZT 1 ?_
       refine Z0 ?_
       rcases zit E90 with ⟨c92, H93⟩ | ⟨c92, H93⟩
       ·refine Z1 c92 ?_
        obtain rfl := Zi H93
        exact ⟨⟨⟨true, rfl⟩, g⟩, ZR [(0, 0)]⟩
       ·refine Z1 c92 ?_
        obtain rfl := Zi H93
        exact ⟨⟨⟨(decide (t7 < (t25.length : Int))), rfl⟩, g⟩, ZR [(0, 0)]⟩
      ·rintro ⟨⟨t352, he169⟩, g2⟩
       obtain rfl := he169.symm
       try dsimp only at H91
       refine ZT 1 ?_
       refine Z0 ?_
       rcases zit H91 with ⟨c94, H95⟩ | ⟨c94, H95⟩
       ·refine Z1 c94 ?_
        refine zbk ?_
        refine zbk ?_
        refine zsq ?_
        obtain ⟨e_5, E96, H97⟩ := zbi H95
        refine zjn (α := { y : Bool // e_5 = y } × Nat) (fun | ⟨⟨t382, _⟩, g3⟩ => ⟨upd 3 (.d (.sl (List.map eS t19)) false) (upd 4 (.d (.sl (List.map eS t25)) false) (upd 5 (accV 0 g3 (List.map eS t5)) (upd 6 (.v (.int .i64 t6)) (upd 7 (.v (.int .i64 t7)) (upd 38 (.v (.bool t382)) noFr))))), upd 0 (accO 1 g3 false (List.map eS t5)) noHp, 1⟩) ?_ ?_
        ·refine ZT 1 ?_
         refine Z0 ?_
         rcases zit E96 with ⟨c98, H99⟩ | ⟨c98, H99⟩
         ·refine Z1 c98 ?_
          refine Rd_endF (by rfl) ?_
          refine Z1 c98 ?_
          obtain rfl := Zi H99
          exact ⟨⟨⟨true, rfl⟩, g2⟩, ZR [(0, 0)]⟩
         ·refine Z1 c98 ?_
          rcases zit H99 with ⟨c100, H101⟩ | ⟨c100, H101⟩
          ·obtain ⟨x7, b102, H103⟩ := zbi H101
           obtain ⟨h104, h105⟩ := zix b102
           try simp only [Int.reduceToNat, Int.toNat_natCast] at h105
           have h106 := map_at eS h105
           obtain ⟨x8, b108, H109⟩ := zbi H103
           obtain ⟨h110, h111⟩ := zix b108
           try simp only [Int.reduceToNat, Int.toNat_natCast] at h111
           have h112 := map_at eS h111
           refine Z1 (Y6 c98 c100 (zno .i64 h104) h106 (zno .i64 h110) h112) ?_
           refine Rd_endF (by rfl) ?_
           refine Z1 (Y6 c98 c100 (zno .i64 h104) h106 (zno .i64 h110) h112) ?_
           obtain rfl := Zi H109
           exact ⟨⟨⟨(Op.bytesLess x7.toList x8.toList), rfl⟩, g2⟩, ZR [(0, 0)]⟩
          ·refine Z1 (Y2 c98 c100) ?_
           refine Rd_endF (by rfl) ?_
           refine Z1 (Y2 c98 c100) ?_
           obtain rfl := Zi H101
           exact ⟨⟨⟨false, rfl⟩, g2⟩, ZR [(0, 0)]⟩
        ·rintro ⟨⟨t382, he168⟩, g3⟩
         obtain rfl := he168.symm
         try dsimp only at H97
         refine ZT 3 ?_
         refine Z0 ?_
         rcases zit H97 with ⟨c114, H115⟩ | ⟨c114, H115⟩
         ·obtain ⟨x9, b116, H117⟩ := zbi H115
          obtain ⟨h118, h119⟩ := zix b116
          try simp only [Int.reduceToNat, Int.toNat_natCast] at h119
          have h120 := map_at eS h119
          obtain ⟨l4, b122, H123⟩ := zbi H117
          obtain ⟨h124, h125⟩ := app_inv b122
          have h124 : t5.length + 1 ≤ 4294967296 := h124
          have h126 : List.map eS t5 ++ [[.v (.string x9)]] = List.map eS l4 := app_map eS h125
          have h127 : t5.length + 1 = l4.length := app_len h125
          have h128 : l4.length ≤ 4294967296 := by omega
          have q129 : 0 < l4.length := by omega
          refine Z1 (Y2 (Y6 c114 (zno .i64 h118) h120 h124 h126 h127) h128) ?_
          rcases t5 with _ | ⟨q0, q1⟩
          ·try simp only [List.map_nil, accI, accN]
           exact ⟨⟨((c, (l4, (IntKind.i64.wrap (t6 + 1)), t7)), 0), H123⟩, ZR [(0, 7)], Nat.lt_succ_self _⟩
          ·try simp only [List.map_cons, accI, accN]
           exact ⟨⟨((c, (l4, (IntKind.i64.wrap (t6 + 1)), t7)), (g3 + 1)), H123⟩, ZR [(0, 0)], Nat.lt_succ_self _⟩
         ·refine Z1 c114 ?_
          rcases zit H115 with ⟨c130, H131⟩ | ⟨c130, H131⟩
          ·refine Z1 (Y2 c114 c130) ?_
           refine Rd_endF (by rfl) ?_
           obtain ⟨x10, b132, H133⟩ := zbi H131
           obtain ⟨h134, h135⟩ := zix b132
           try simp only [Int.reduceToNat, Int.toNat_natCast] at h135
           have h136 := map_at eS h135
           obtain ⟨l5, b138, H139⟩ := zbi H133
           obtain ⟨h140, h141⟩ := app_inv b138
           have h140 : t5.length + 1 ≤ 4294967296 := h140
           have h142 : List.map eS t5 ++ [[.v (.string x10)]] = List.map eS l5 := app_map eS h141
           have h143 : t5.length + 1 = l5.length := app_len h141
           have h144 : l5.length ≤ 4294967296 := by omega
           have q145 : 0 < l5.length := by omega
           refine Z1 (Y2 (Y6 c114 c130 (zno .i64 h134) h136 h140 h142) (Y2 h143 h144)) ?_
           rcases t5 with _ | ⟨q0, q1⟩
           ·try simp only [List.map_nil, accI, accN]
            exact ⟨⟨((c, (l5, t6, (IntKind.i64.wrap (t7 + 1)))), 0), H139⟩, ZR [(0, 23)], Nat.lt_succ_self _⟩
           ·try simp only [List.map_cons, accI, accN]
            exact ⟨⟨((c, (l5, t6, (IntKind.i64.wrap (t7 + 1)))), (g3 + 1)), H139⟩, ZR [(0, 0)], Nat.lt_succ_self _⟩
          ·obtain ⟨x11, b146, H147⟩ := zbi H131
           obtain ⟨h148, h149⟩ := zix b146
           try simp only [Int.reduceToNat, Int.toNat_natCast] at h149
           have h150 := map_at eS h149
           obtain ⟨x12, b152, H153⟩ := zbi H147
           obtain ⟨h154, h155⟩ := zix b152
           try simp only [Int.reduceToNat, Int.toNat_natCast] at h155
           have h156 := map_at eS h155
           refine Z1 (Y6 c114 c130 (zno .i64 h148) h150 (zno .i64 h154) h156) ?_
           refine Rd_endF (by rfl) ?_
           refine Z1 (Y6 c114 c130 (zno .i64 h148) h150 (zno .i64 h154) h156) ?_
           rcases zit H153 with ⟨c158, H159⟩ | ⟨c158, H159⟩
           ·obtain ⟨l6, b160, H161⟩ := zbi H159
            obtain ⟨h162, h163⟩ := app_inv b160
            have h162 : t5.length + 1 ≤ 4294967296 := h162
            have h164 : List.map eS t5 ++ [[.v (.string x11)]] = List.map eS l6 := app_map eS h163
            have h165 : t5.length + 1 = l6.length := app_len h163
            have h166 : l6.length ≤ 4294967296 := by omega
            have q167 : 0 < l6.length := by omega
            refine Z1 (Y2 (Y6 c114 c130 (zno .i64 h148) h150 (zno .i64 h154) h156) (Y5 c158 h162 h164 h165 h166)) ?_
            rcases t5 with _ | ⟨q0, q1⟩
            ·try simp only [List.map_nil, accI, accN]
             exact ⟨⟨((c, (l6, t6, (IntKind.i64.wrap (t7 + 1)))), 0), H161⟩, ZR [(0, 23)], Nat.lt_succ_self _⟩
            ·try simp only [List.map_cons, accI, accN]
             exact ⟨⟨((c, (l6, t6, (IntKind.i64.wrap (t7 + 1)))), (g3 + 1)), H161⟩, ZR [(0, 0)], Nat.lt_succ_self _⟩
           ·refine Z1 (Y2 (Y6 c114 c130 (zno .i64 h148) h150 (zno .i64 h154) h156) c158) ?_
            exact ⟨⟨((c, (t5, (IntKind.i64.wrap (t6 + 1)), t7)), g3), H159⟩, ZR [(0, 0)], Nat.lt_succ_self _⟩
       ·refine Z1 c94 ?_
        obtain rfl := Zi H95
        exact ⟨⟨⟨t5, rfl⟩, g2⟩, ZR [(0, 0)]⟩
   ·rintro ⟨⟨t53, he170⟩, g5⟩
    obtain rfl := he170.symm
    try dsimp only at H32
    refine ZT 1 ?_
    refine Z0 ?_
    obtain rfl := Zi H32
    exact ZE0
def ref1_SameTexts_L1 (n : Nat) (a : List ByteArray) (b : List ByteArray) : Nat → Int → Option ((Unit) ⊕ Bool)
 | 0, _ => none
 | c + 1, i =>
  (if (decide (i < (a.length : Int))) then
   (idx a i).bind fun x3 =>
   (idx b i).bind fun x4 =>
   (if (x3.toList == x4.toList) then
    ref1_SameTexts_L1 n a b c (IntKind.i64.wrap (i + 1))
   else
    some (.inr false))
  else
   some (.inl ()))
def ref1_SameTexts (n : Nat) (a : List ByteArray) (b : List ByteArray) : Option Bool :=
 (if ((a.length : Int) != (b.length : Int)) then
  some false
 else
  (
   ref1_SameTexts_L1 n a b n 0 : Option ((Unit) ⊕ Bool)).bind fun
   | .inl _ =>
    some true
   | .inr r => some r)
theorem ref1_SameTexts_ok {n : Nat} {a : List ByteArray} {b : List ByteArray} {r : Bool} (H : ref1_SameTexts n a b = some r) : PureOK Tryz.prog 100 [D.sl (List.map eS a), D.sl (List.map eS b)] (D.v (.bool r)) true := by
 unfold ref1_SameTexts at H
 refine ZP tab_ok fol (rs := #[.tmp 4]) Tryz.func100 ?_
 refine zsq (ZT 1 ?_)
 refine Z0 ?_
 refine zsq (ZT 1 ?_)
 refine Z0 ?_
 rcases zit H with ⟨c1, H2⟩ | ⟨c1, H2⟩
 ·refine Z1 c1 ?_
  obtain rfl := Zi H2
  exact ZE0
 ·refine Z1 c1 ?_
  refine zsq (zsq ?_)
  refine ZT 1 ?_
  refine Z1 c1 ?_
  obtain ⟨e_, E3, H4⟩ := zbi H2
  refine zjn (α := { y : Unit // e_ = .inl y }) (fun | ⟨_, _⟩ => ⟨noFr, noHp, 0⟩) ?_ ?_
  ·refine zbk ?_
   refine zlp (α := { q : Nat × Int // ref1_SameTexts_L1 n a b q.1 q.2 = some e_ }) (fun | ⟨⟨c, i⟩, _⟩ => ⟨upd 0 (.d (.sl (List.map eS a)) true) (upd 1 (.d (.sl (List.map eS b)) true) (upd 5 (.v (.int .i64 i)) noFr)), noHp, 0⟩) (fun q => q.1.1) ⟨(n, 0), E3⟩ ?_ ?_
   ·exact ZR []
   ·rintro ⟨⟨c, i⟩, L5⟩
    rcases c with _ | c
    ·exact Zx L5
    ·unfold ref1_SameTexts_L1 at L5
     try dsimp only at L5
     refine ZT 1 ?_
     refine Z0 ?_
     rcases zit L5 with ⟨c22, H23⟩ | ⟨c22, H23⟩
     ·obtain ⟨x3, b24, H25⟩ := zbi H23
      obtain ⟨h26, h27⟩ := zix b24
      try simp only [Int.reduceToNat, Int.toNat_natCast] at h27
      have h28 := map_at eS h27
      obtain ⟨x4, b30, H31⟩ := zbi H25
      obtain ⟨h32, h33⟩ := zix b30
      try simp only [Int.reduceToNat, Int.toNat_natCast] at h33
      have h34 := map_at eS h33
      refine Z1 (Y5 c22 (zno .i64 h26) h28 (zno .i64 h32) h34) ?_
      refine Rd_endF (by rfl) ?_
      refine Z1 (Y5 c22 (zno .i64 h26) h28 (zno .i64 h32) h34) ?_
      rcases zit H31 with ⟨c36, H37⟩ | ⟨c36, H37⟩
      ·refine Z1 (Y6 c22 (zno .i64 h26) h28 (zno .i64 h32) h34 c36) ?_
       exact ⟨⟨(c, (IntKind.i64.wrap (i + 1))), H37⟩, ZR [], Nat.lt_succ_self _⟩
      ·refine Z1 (Y6 c22 (zno .i64 h26) h28 (zno .i64 h32) h34 c36) ?_
       obtain rfl := Zi H37
       obtain rfl := Zi H4
       exact ZE0
     ·refine Z1 c22 ?_
      obtain rfl := Zi H23
      exact ⟨⟨(), rfl⟩, ZR []⟩
  ·rintro ⟨_, he38⟩
   obtain rfl := he38.symm
   try dsimp only at H4
   refine ZT 1 ?_
   refine Z0 ?_
   obtain rfl := Zi H4
   exact ZE0
def ref17_alike (n : Nat) (t0 : GFile) (t1 : GFile) : Option Bool :=
 (ref17_Acl n t0.acl).bind fun t12 =>
 (ref17_Acl n t1.acl).bind fun t18 =>
 (if (t0.kind == t1.kind) then
  (if (t0.owner.toList == t1.owner.toList) then
   (if (t0.group.toList == t1.group.toList) then
    (ref1_Texts n t0.users).bind fun t43 =>
    (ref1_Texts n t1.users).bind fun t46 =>
    (ref1_SameTexts n t43 t46).bind fun t47 =>
    (if t47 then
     (ref17_item n t0).bind fun t51 =>
     (if t51 then
      (if t12.2 then
       (if t18.2 then
        (ref17_SameAcl n t12.1 t18.1).bind fun t64 =>
        some t64
       else
        some true)
      else
       some true)
     else
      some true)
    else
     some false)
   else
    some false)
  else
   some false)
 else
  some false)
theorem ref17_alike_ok {n : Nat} {t0 : GFile} {t1 : GFile} {r : Bool} (H : ref17_alike n t0 t1 = some r) : PureOK Tryz.prog 80 [D.ag (eGFile t0), D.ag (eGFile t1)] (D.v (.bool r)) true := by
 unfold ref17_alike at H
 refine ZP tab_ok fol (rs := #[.tmp 4]) Tryz.func80 ?_
 refine ZT 1 ?_
 obtain ⟨t12, b1, H2⟩ := zbi H
 refine Z0 ?_
 refine ZC0 (ref17_Acl_ok b1) ?_
 obtain ⟨t18, b3, H4⟩ := zbi H2
 refine Z0 ?_
 refine ZC0 (ref17_Acl_ok b3) ?_
 refine Z0 ?_
 rcases zit H4 with ⟨c5, H6⟩ | ⟨c5, H6⟩
 ·refine Z1 c5 ?_
  rcases zit H6 with ⟨c7, H8⟩ | ⟨c7, H8⟩
  ·refine Z1 (Y2 c5 c7) ?_
   rcases zit H8 with ⟨c9, H10⟩ | ⟨c9, H10⟩
   ·obtain ⟨t43, b11, H12⟩ := zbi H10
    refine Z1 (Y3 c5 c7 c9) ?_
    refine ZD0 (ref1_Texts_ok b11) ?_
    obtain ⟨t46, b13, H14⟩ := zbi H12
    refine Z1 (Y3 c5 c7 c9) ?_
    refine ZD0 (ref1_Texts_ok b13) ?_
    obtain ⟨t47, b15, H16⟩ := zbi H14
    refine Z1 (Y3 c5 c7 c9) ?_
    refine ZD0 (ref1_SameTexts_ok b15) ?_
    refine Z1 (Y3 c5 c7 c9) ?_
    rcases zit H16 with ⟨c17, H18⟩ | ⟨c17, H18⟩
    ·obtain ⟨t51, b19, H20⟩ := zbi H18
     refine Z1 (Y4 c5 c7 c9 c17) ?_
     refine ZD0 (ref17_item_ok b19) ?_
     refine Z1 (Y4 c5 c7 c9 c17) ?_
     rcases zit H20 with ⟨c21, H22⟩ | ⟨c21, H22⟩
     ·refine Z1 (Y5 c5 c7 c9 c17 c21) ?_
      rcases zit H22 with ⟨c23, H24⟩ | ⟨c23, H24⟩
      ·refine Z1 (Y6 c5 c7 c9 c17 c21 c23) ?_
       rcases zit H24 with ⟨c25, H26⟩ | ⟨c25, H26⟩
       ·obtain ⟨t64, b27, H28⟩ := zbi H26
        refine Z1 (Y2 (Y6 c5 c7 c9 c17 c21 c23) c25) ?_
        refine ZD0 (ref17_SameAcl_ok b27) ?_
        refine Z1 (Y2 (Y6 c5 c7 c9 c17 c21 c23) c25) ?_
        refine Rd_endF (by kernel_rfl) ?_
        refine Z1 (Y2 (Y6 c5 c7 c9 c17 c21 c23) c25) ?_
        obtain rfl := Zi H28
        exact ZE0
       ·refine Z1 (Y2 (Y6 c5 c7 c9 c17 c21 c23) c25) ?_
        refine Rd_endF (by kernel_rfl) ?_
        refine Z1 (Y2 (Y6 c5 c7 c9 c17 c21 c23) c25) ?_
        obtain rfl := Zi H26
        exact ZE0
      ·refine Z1 (Y6 c5 c7 c9 c17 c21 c23) ?_
       refine Rd_endF (by kernel_rfl) ?_
       refine Z1 (Y6 c5 c7 c9 c17 c21 c23) ?_
       obtain rfl := Zi H24
       exact ZE0
     ·refine Z1 (Y5 c5 c7 c9 c17 c21) ?_
      refine Rd_endF (by kernel_rfl) ?_
      refine Z1 (Y5 c5 c7 c9 c17 c21) ?_
      obtain rfl := Zi H22
      exact ZE0
    ·refine Z1 (Y4 c5 c7 c9 c17) ?_
     refine Rd_endF (by kernel_rfl) ?_
     refine Z1 (Y4 c5 c7 c9 c17) ?_
     obtain rfl := Zi H18
     exact ZE0
   ·refine Z1 (Y3 c5 c7 c9) ?_
    refine Rd_endF (by kernel_rfl) ?_
    refine Z1 (Y3 c5 c7 c9) ?_
    obtain rfl := Zi H10
    exact ZE0
  ·refine Z1 (Y2 c5 c7) ?_
   refine Rd_endF (by kernel_rfl) ?_
   refine Z1 (Y2 c5 c7) ?_
   obtain rfl := Zi H8
   exact ZE0
 ·refine Z1 c5 ?_
  refine Rd_endF (by kernel_rfl) ?_
  refine Z1 c5 ?_
  obtain rfl := Zi H6
  exact ZE0
def ref17_unknown_L1 (n : Nat) (t0 : List GFile) (t1 : GFile) : Nat → Int → Option ((Unit) ⊕ Bool)
 | 0, _ => none
 | c + 1, t5 =>
  (if (decide (t5 < (t1.users.length : Int))) then
   (idx t1.users t5).bind fun x2 =>
   (ref17_told n t0 1 x2).bind fun t212 =>
   (if t212 then
    ref17_unknown_L1 n t0 t1 c (IntKind.i64.wrap (t5 + 1))
   else
    some (.inr true))
  else
   some (.inl ()))
def ref17_unknown_L2 (n : Nat) (t0 : List GFile) (t1 : GFile) : Nat → Int → Option ((Unit) ⊕ Bool)
 | 0, _ => none
 | c + 1, t6 =>
  (if (decide (t6 < (t1.acl.length : Int))) then
   (idx t1.acl t6).bind fun x4 =>
   (if (x4.kind == 2) then
    (ref17_told n t0 1 x4.name).bind fun t572 =>
    (if t572 then
     (if (x4.kind == 4) then
      (ref17_told n t0 2 x4.name).bind fun t683 =>
      (if t683 then
       ref17_unknown_L2 n t0 t1 c (IntKind.i64.wrap (t6 + 1))
      else
       some (.inr true))
     else
      ref17_unknown_L2 n t0 t1 c (IntKind.i64.wrap (t6 + 1)))
    else
     some (.inr true))
   else
    (if (x4.kind == 4) then
     (ref17_told n t0 2 x4.name).bind fun t684 =>
     (if t684 then
      ref17_unknown_L2 n t0 t1 c (IntKind.i64.wrap (t6 + 1))
     else
      some (.inr true))
    else
     ref17_unknown_L2 n t0 t1 c (IntKind.i64.wrap (t6 + 1))))
  else
   some (.inl ()))
def ref17_unknown (n : Nat) (t0 : List GFile) (t1 : GFile) : Option Bool :=
 (
  ref17_unknown_L1 n t0 t1 n 0 : Option ((Unit) ⊕ Bool)).bind fun
  | .inl _ =>
   (ref17_item n t1).bind fun t24 =>
   (if t24 then
    (
     (ref17_told n t0 1 t1.owner).bind fun t29 =>
     (if t29 then
      (ref17_told n t0 2 t1.group).bind fun t35 =>
      some (!t35)
     else
      some true) : Option (Bool)).bind fun t37 =>
    (if t37 then
     some true
    else
     (
      ref17_unknown_L2 n t0 t1 n 0 : Option ((Unit) ⊕ Bool)).bind fun
      | .inl _ =>
       some false
      | .inr r => some r)
   else
    some false)
  | .inr r => some r
set_option maxHeartbeats 8000000 in
theorem ref17_unknown_ok {n : Nat} {t0 : List GFile} {t1 : GFile} {r : Bool} (H : ref17_unknown n t0 t1 = some r) : PureOK Tryz.prog 81 [D.sl (List.map eGFile t0), D.ag (eGFile t1)] (D.v (.bool r)) true := by
 unfold ref17_unknown at H
 refine ZP tab_ok fol (rs := #[.tmp 4]) Tryz.func81 ?_
 refine zsq (ZT 1 ?_)
 refine Z0 ?_
 refine zsq (zsq ?_)
 refine ZT 1 ?_
 refine Z0 ?_
 obtain ⟨e_, E1, H2⟩ := zbi H
 refine zjn (α := { y : Unit // e_ = .inl y }) (fun | ⟨_, _⟩ => ⟨upd 0 (.d (.sl (List.map eGFile t0)) true) (upd 3 (.pt 0 0) noFr), upd 0 (some (.bx [.v (.int .i64 t1.kind), .v (.string t1.name), .d (.sl (List.map eS t1.users)) true, .v (.string t1.owner), .v (.string t1.group), .d (.sl (List.map eGEntry t1.acl)) true, .v (.int .i64 t1.at_)])) noHp, 1⟩) ?_ ?_
 ·refine zbk ?_
  refine zlp (α := { q : Nat × Int // ref17_unknown_L1 n t0 t1 q.1 q.2 = some e_ }) (fun | ⟨⟨c, t5⟩, _⟩ => ⟨upd 0 (.d (.sl (List.map eGFile t0)) true) (upd 3 (.pt 0 0) (upd 5 (.v (.int .i64 t5)) noFr)), upd 0 (some (.bx [.v (.int .i64 t1.kind), .v (.string t1.name), .d (.sl (List.map eS t1.users)) true, .v (.string t1.owner), .v (.string t1.group), .d (.sl (List.map eGEntry t1.acl)) true, .v (.int .i64 t1.at_)])) noHp, 1⟩) (fun q => q.1.1) ⟨(n, 0), E1⟩ ?_ ?_
  ·exact ZR [(0, 0)]
  ·rintro ⟨⟨c, t5⟩, L3⟩
   rcases c with _ | c
   ·exact Zx L3
   ·unfold ref17_unknown_L1 at L3
    try dsimp only at L3
    refine ZT 1 ?_
    refine Z0 ?_
    rcases zit L3 with ⟨c16, H17⟩ | ⟨c16, H17⟩
    ·obtain ⟨x2, b18, H19⟩ := zbi H17
     obtain ⟨h20, h21⟩ := zix b18
     try simp only [Int.reduceToNat, Int.toNat_natCast] at h21
     have h22 := map_at eS h21
     obtain ⟨t212, b24, H25⟩ := zbi H19
     refine Z1 (Y3 c16 (zno .i64 h20) h22) ?_
     refine ZC0 (ref17_told_ok b24) ?_
     refine Z1 (Y3 c16 (zno .i64 h20) h22) ?_
     rcases zit H25 with ⟨c26, H27⟩ | ⟨c26, H27⟩
     ·refine Z1 (Y4 c16 (zno .i64 h20) h22 c26) ?_
      exact ⟨⟨(c, (IntKind.i64.wrap (t5 + 1))), H27⟩, ZR [(0, 0)], Nat.lt_succ_self _⟩
     ·refine Z1 (Y4 c16 (zno .i64 h20) h22 c26) ?_
      obtain rfl := Zi H27
      obtain rfl := Zi H2
      exact ZE0
    ·refine Z1 c16 ?_
     obtain rfl := Zi H17
     exact ⟨⟨(), rfl⟩, ZR [(0, 0)]⟩
 ·rintro ⟨_, he99⟩
  obtain rfl := he99.symm
  try dsimp only at H2
  refine zsq (ZT 1 ?_)
  obtain ⟨t24, b28, H29⟩ := zbi H2
  refine Z0 ?_
  refine ZC0 (ref17_item_ok b28) ?_
  refine Z0 ?_
  rcases zit H29 with ⟨c30, H31⟩ | ⟨c30, H31⟩
  ·refine Z1 c30 ?_
   refine zsq (zsq ?_)
   obtain ⟨e_2, E32, H33⟩ := zbi H31
   refine zjn (α := { y : Bool // e_2 = y }) (fun | ⟨t37, _⟩ => ⟨upd 0 (.d (.sl (List.map eGFile t0)) true) (upd 3 (.pt 0 0) (upd 37 (.v (.bool t37)) noFr)), upd 0 (some (.bx [.v (.int .i64 t1.kind), .v (.string t1.name), .d (.sl (List.map eS t1.users)) true, .v (.string t1.owner), .v (.string t1.group), .d (.sl (List.map eGEntry t1.acl)) true, .v (.int .i64 t1.at_)])) noHp, 1⟩) ?_ ?_
   ·refine ZT 1 ?_
    obtain ⟨t29, b34, H35⟩ := zbi E32
    refine Z0 ?_
    refine ZC0 (ref17_told_ok b34) ?_
    refine Z0 ?_
    rcases zit H35 with ⟨c36, H37⟩ | ⟨c36, H37⟩
    ·obtain ⟨t35, b38, H39⟩ := zbi H37
     refine Z1 c36 ?_
     refine ZC0 (ref17_told_ok b38) ?_
     refine Z1 c36 ?_
     obtain rfl := Zi H39
     exact ⟨⟨(!t35), rfl⟩, ZR [(0, 0)]⟩
    ·refine Z1 c36 ?_
     obtain rfl := Zi H37
     exact ⟨⟨true, rfl⟩, ZR [(0, 0)]⟩
   ·rintro ⟨t37, he98⟩
    obtain rfl := he98.symm
    try dsimp only at H33
    refine ZT 1 ?_
    refine Z0 ?_
    rcases zit H33 with ⟨c40, H41⟩ | ⟨c40, H41⟩
    ·refine Z1 c40 ?_
     obtain rfl := Zi H41
     exact ZE0
    ·refine Z1 c40 ?_
     refine zsq (zsq ?_)
     refine ZT 1 ?_
     refine Z1 c40 ?_
     obtain ⟨e_3, E42, H43⟩ := zbi H41
     refine zjn (α := { y : Unit // e_3 = .inl y }) (fun | ⟨_, _⟩ => ⟨noFr, noHp, 0⟩) ?_ ?_
     ·refine zbk ?_
      refine zlp (α := { q : Nat × Int // ref17_unknown_L2 n t0 t1 q.1 q.2 = some e_3 }) (fun | ⟨⟨c, t6⟩, _⟩ => ⟨upd 0 (.d (.sl (List.map eGFile t0)) true) (upd 3 (.pt 0 0) (upd 6 (.v (.int .i64 t6)) noFr)), upd 0 (some (.bx [.v (.int .i64 t1.kind), .v (.string t1.name), .d (.sl (List.map eS t1.users)) true, .v (.string t1.owner), .v (.string t1.group), .d (.sl (List.map eGEntry t1.acl)) true, .v (.int .i64 t1.at_)])) noHp, 1⟩) (fun q => q.1.1) ⟨(n, 0), E42⟩ ?_ ?_
      ·exact ZR [(0, 0)]
      ·rintro ⟨⟨c, t6⟩, L44⟩
       rcases c with _ | c
       ·exact Zx L44
       ·unfold ref17_unknown_L2 at L44
        try dsimp only at L44
        refine ZT 1 ?_
        refine Z0 ?_
        rcases zit L44 with ⟨c71, H72⟩ | ⟨c71, H72⟩
        ·obtain ⟨x4, b73, H74⟩ := zbi H72
         obtain ⟨h75, h76⟩ := zix b73
         try simp only [Int.reduceToNat, Int.toNat_natCast] at h76
         have h77 := map_at eGEntry h76
         refine Z1 (Y3 c71 (zno .i64 h75) h77) ?_
         rcases zit H74 with ⟨c79, H80⟩ | ⟨c79, H80⟩
         ·obtain ⟨t572, b81, H82⟩ := zbi H80
          refine Z1 (Y4 c71 (zno .i64 h75) h77 c79) ?_
          refine ZC0 (ref17_told_ok b81) ?_
          refine Z1 (Y4 c71 (zno .i64 h75) h77 c79) ?_
          rcases zit H82 with ⟨c83, H84⟩ | ⟨c83, H84⟩
          ·refine Z1 (Y5 c71 (zno .i64 h75) h77 c79 c83) ?_
           rcases zit H84 with ⟨c85, H86⟩ | ⟨c85, H86⟩
           ·obtain ⟨t683, b87, H88⟩ := zbi H86
            refine Z1 (Y6 c71 (zno .i64 h75) h77 c79 c83 c85) ?_
            refine ZC0 (ref17_told_ok b87) ?_
            refine Z1 (Y6 c71 (zno .i64 h75) h77 c79 c83 c85) ?_
            rcases zit H88 with ⟨c89, H90⟩ | ⟨c89, H90⟩
            ·refine Z1 (Y2 (Y6 c71 (zno .i64 h75) h77 c79 c83 c85) c89) ?_
             exact ⟨⟨(c, (IntKind.i64.wrap (t6 + 1))), H90⟩, ZR [(0, 0)], Nat.lt_succ_self _⟩
            ·refine Z1 (Y2 (Y6 c71 (zno .i64 h75) h77 c79 c83 c85) c89) ?_
             obtain rfl := Zi H90
             obtain rfl := Zi H43
             exact ZE0
           ·refine Z1 (Y6 c71 (zno .i64 h75) h77 c79 c83 c85) ?_
            exact ⟨⟨(c, (IntKind.i64.wrap (t6 + 1))), H86⟩, ZR [(0, 0)], Nat.lt_succ_self _⟩
          ·refine Z1 (Y5 c71 (zno .i64 h75) h77 c79 c83) ?_
           obtain rfl := Zi H84
           obtain rfl := Zi H43
           exact ZE0
         ·refine Z1 (Y4 c71 (zno .i64 h75) h77 c79) ?_
          rcases zit H80 with ⟨c91, H92⟩ | ⟨c91, H92⟩
          ·obtain ⟨t684, b93, H94⟩ := zbi H92
           refine Z1 (Y5 c71 (zno .i64 h75) h77 c79 c91) ?_
           refine ZC0 (ref17_told_ok b93) ?_
           refine Z1 (Y5 c71 (zno .i64 h75) h77 c79 c91) ?_
           rcases zit H94 with ⟨c95, H96⟩ | ⟨c95, H96⟩
           ·refine Z1 (Y6 c71 (zno .i64 h75) h77 c79 c91 c95) ?_
            exact ⟨⟨(c, (IntKind.i64.wrap (t6 + 1))), H96⟩, ZR [(0, 0)], Nat.lt_succ_self _⟩
           ·refine Z1 (Y6 c71 (zno .i64 h75) h77 c79 c91 c95) ?_
            obtain rfl := Zi H96
            obtain rfl := Zi H43
            exact ZE0
          ·refine Z1 (Y5 c71 (zno .i64 h75) h77 c79 c91) ?_
           exact ⟨⟨(c, (IntKind.i64.wrap (t6 + 1))), H92⟩, ZR [(0, 0)], Nat.lt_succ_self _⟩
        ·refine Z1 c71 ?_
         obtain rfl := Zi H72
         exact ⟨⟨(), rfl⟩, ZR []⟩
     ·rintro ⟨_, he97⟩
      obtain rfl := he97.symm
      try dsimp only at H43
      refine ZT 1 ?_
      refine Z0 ?_
      obtain rfl := Zi H43
      exact ZE0
  ·refine Z1 c30 ?_
   obtain rfl := Zi H31
   exact ZE0
def ref17_fact_L1 (n : Nat) (t0 : List GFile) (t1 : Int) (x : GFile) : Nat → Int → Option ((Unit) ⊕ Int)
 | 0, _ => none
 | c + 1, t6 =>
  (if (decide (t6 < t1)) then
   (idx t0 t6).bind fun x3 =>
   (if (x3.name.toList == x.name.toList) then
    (if (x3.kind == x.kind) then
     (ref17_alike n x3 x).bind fun t533 =>
     (if t533 then
      ref17_fact_L1 n t0 t1 x c (IntKind.i64.wrap (t6 + 1))
     else
      some (.inr 11))
    else
     (ref17_item n x3).bind fun t402 =>
     (if t402 then
      (ref17_item n x).bind fun t432 =>
      (if t432 then
       (ref17_alike n x3 x).bind fun t534 =>
       (if t534 then
        ref17_fact_L1 n t0 t1 x c (IntKind.i64.wrap (t6 + 1))
       else
        some (.inr 11))
      else
       ref17_fact_L1 n t0 t1 x c (IntKind.i64.wrap (t6 + 1)))
     else
      ref17_fact_L1 n t0 t1 x c (IntKind.i64.wrap (t6 + 1))))
   else
    ref17_fact_L1 n t0 t1 x c (IntKind.i64.wrap (t6 + 1)))
  else
   some (.inl ()))
def ref17_fact (n : Nat) (t0 : List GFile) (t1 : Int) : Option Int :=
 (idx t0 t1).bind fun x =>
 (
  ref17_fact_L1 n t0 t1 x n 0 : Option ((Unit) ⊕ Int)).bind fun
  | .inl _ =>
   (ref17_unknown n t0 x).bind fun t58 =>
   (if t58 then
    some 12
   else
    (ref17_item n x).bind fun t60 =>
    (if t60 then
     (ref17_Acl n x.acl).bind fun t65 =>
     (if t65.2 then
      (if (x.kind == 4) then
       (idx t65.1 (IntKind.i64.wrap ((t65.1.length : Int) - 1))).bind fun x4 =>
       (if x4.default then
        some 20
       else
        some 0)
      else
       some 0)
     else
      some 20)
    else
     some 0))
  | .inr r => some r
theorem ref17_fact_ok {n : Nat} {t0 : List GFile} {t1 : Int} {r : Int} (H : ref17_fact n t0 t1 = some r) : PureOK Tryz.prog 52 [D.sl (List.map eGFile t0), D.v (.int .i64 t1)] (D.v (.int .i64 r)) true := by
 unfold ref17_fact at H
 refine ZP tab_ok fol (rs := #[.tmp 4]) Tryz.func52 ?_
 refine zsq (ZT 1 ?_)
 refine Z0 ?_
 refine zsq (ZT 1 ?_)
 obtain ⟨x, b1, H2⟩ := zbi H
 obtain ⟨h3, h4⟩ := zix b1
 try simp only [Int.reduceToNat, Int.toNat_natCast] at h4
 have h5 := map_at eGFile h4
 refine Z1 (Y2 (zno .i64 h3) h5) ?_
 refine zsq (zsq ?_)
 refine ZT 1 ?_
 refine Z1 (Y2 (zno .i64 h3) h5) ?_
 obtain ⟨e_, E7, H8⟩ := zbi H2
 refine zjn (α := { y : Unit // e_ = .inl y }) (fun | ⟨_, _⟩ => ⟨upd 0 (.d (.sl (List.map eGFile t0)) true) (upd 5 (.pt 0 0) noFr), upd 0 (some (.bx [.v (.int .i64 x.kind), .v (.string x.name), .d (.sl (List.map eS x.users)) true, .v (.string x.owner), .v (.string x.group), .d (.sl (List.map eGEntry x.acl)) true, .v (.int .i64 x.at_)])) noHp, 1⟩) ?_ ?_
 ·refine zbk ?_
  refine zlp (α := { q : Nat × Int // ref17_fact_L1 n t0 t1 x q.1 q.2 = some e_ }) (fun | ⟨⟨c, t6⟩, _⟩ => ⟨upd 0 (.d (.sl (List.map eGFile t0)) true) (upd 1 (.v (.int .i64 t1)) (upd 5 (.pt 0 0) (upd 6 (.v (.int .i64 t6)) noFr))), upd 0 (some (.bx [.v (.int .i64 x.kind), .v (.string x.name), .d (.sl (List.map eS x.users)) true, .v (.string x.owner), .v (.string x.group), .d (.sl (List.map eGEntry x.acl)) true, .v (.int .i64 x.at_)])) noHp, 1⟩) (fun q => q.1.1) ⟨(n, 0), E7⟩ ?_ ?_
  ·exact ZR [(0, 5)]
  ·rintro ⟨⟨c, t6⟩, L9⟩
   rcases c with _ | c
   ·exact Zx L9
   ·unfold ref17_fact_L1 at L9
    try dsimp only at L9
    refine ZT 1 ?_
    refine Z0 ?_
    rcases zit L9 with ⟨c38, H39⟩ | ⟨c38, H39⟩
    ·obtain ⟨x3, b40, H41⟩ := zbi H39
     obtain ⟨h42, h43⟩ := zix b40
     try simp only [Int.reduceToNat, Int.toNat_natCast] at h43
     have h44 := map_at eGFile h43
     refine Z1 (Y3 c38 (zno .i64 h42) h44) ?_
     rcases zit H41 with ⟨c46, H47⟩ | ⟨c46, H47⟩
     ·refine Z1 (Y4 c38 (zno .i64 h42) h44 c46) ?_
      rcases zit H47 with ⟨c48, H49⟩ | ⟨c48, H49⟩
      ·obtain ⟨t533, b50, H51⟩ := zbi H49
       refine Z1 (Y5 c38 (zno .i64 h42) h44 c46 c48) ?_
       refine ZD0 (ref17_alike_ok b50) ?_
       refine Z1 (Y5 c38 (zno .i64 h42) h44 c46 c48) ?_
       refine Rd_endF (by kernel_rfl) ?_
       refine Z1 (Y5 c38 (zno .i64 h42) h44 c46 c48) ?_
       rcases zit H51 with ⟨c52, H53⟩ | ⟨c52, H53⟩
       ·refine Z1 (Y6 c38 (zno .i64 h42) h44 c46 c48 c52) ?_
        exact ⟨⟨(c, (IntKind.i64.wrap (t6 + 1))), H53⟩, ZR [(0, 0)], Nat.lt_succ_self _⟩
       ·refine Z1 (Y6 c38 (zno .i64 h42) h44 c46 c48 c52) ?_
        obtain rfl := Zi H53
        obtain rfl := Zi H8
        exact ZE0
      ·obtain ⟨t402, b54, H55⟩ := zbi H49
       refine Z1 (Y5 c38 (zno .i64 h42) h44 c46 c48) ?_
       refine ZD0 (ref17_item_ok b54) ?_
       refine Z1 (Y5 c38 (zno .i64 h42) h44 c46 c48) ?_
       rcases zit H55 with ⟨c56, H57⟩ | ⟨c56, H57⟩
       ·obtain ⟨t432, b58, H59⟩ := zbi H57
        refine Z1 (Y6 c38 (zno .i64 h42) h44 c46 c48 c56) ?_
        refine ZD0 (ref17_item_ok b58) ?_
        refine Z1 (Y6 c38 (zno .i64 h42) h44 c46 c48 c56) ?_
        rcases zit H59 with ⟨c60, H61⟩ | ⟨c60, H61⟩
        ·obtain ⟨t534, b62, H63⟩ := zbi H61
         refine Z1 (Y2 (Y6 c38 (zno .i64 h42) h44 c46 c48 c56) c60) ?_
         refine ZD0 (ref17_alike_ok b62) ?_
         refine Z1 (Y2 (Y6 c38 (zno .i64 h42) h44 c46 c48 c56) c60) ?_
         refine Rd_endF (by kernel_rfl) ?_
         refine Z1 (Y2 (Y6 c38 (zno .i64 h42) h44 c46 c48 c56) c60) ?_
         rcases zit H63 with ⟨c64, H65⟩ | ⟨c64, H65⟩
         ·refine Z1 (Y2 (Y6 c38 (zno .i64 h42) h44 c46 c48 c56) (Y2 c60 c64)) ?_
          exact ⟨⟨(c, (IntKind.i64.wrap (t6 + 1))), H65⟩, ZR [(0, 0)], Nat.lt_succ_self _⟩
         ·refine Z1 (Y2 (Y6 c38 (zno .i64 h42) h44 c46 c48 c56) (Y2 c60 c64)) ?_
          obtain rfl := Zi H65
          obtain rfl := Zi H8
          exact ZE0
        ·refine Z1 (Y2 (Y6 c38 (zno .i64 h42) h44 c46 c48 c56) c60) ?_
         refine Rd_endF (by kernel_rfl) ?_
         refine Z1 (Y2 (Y6 c38 (zno .i64 h42) h44 c46 c48 c56) c60) ?_
         exact ⟨⟨(c, (IntKind.i64.wrap (t6 + 1))), H61⟩, ZR [(0, 0)], Nat.lt_succ_self _⟩
       ·refine Z1 (Y6 c38 (zno .i64 h42) h44 c46 c48 c56) ?_
        refine Rd_endF (by kernel_rfl) ?_
        refine Z1 (Y6 c38 (zno .i64 h42) h44 c46 c48 c56) ?_
        exact ⟨⟨(c, (IntKind.i64.wrap (t6 + 1))), H57⟩, ZR [(0, 0)], Nat.lt_succ_self _⟩
     ·refine Z1 (Y4 c38 (zno .i64 h42) h44 c46) ?_
      refine Rd_endF (by kernel_rfl) ?_
      refine Z1 (Y4 c38 (zno .i64 h42) h44 c46) ?_
      exact ⟨⟨(c, (IntKind.i64.wrap (t6 + 1))), H47⟩, ZR [(0, 0)], Nat.lt_succ_self _⟩
    ·refine Z1 c38 ?_
     obtain rfl := Zi H39
     exact ⟨⟨(), rfl⟩, ZR [(0, 0)]⟩
 ·rintro ⟨_, he88⟩
  obtain rfl := he88.symm
  try dsimp only at H8
  refine ZT 1 ?_
  obtain ⟨t58, b66, H67⟩ := zbi H8
  refine Z0 ?_
  refine ZC0 (ref17_unknown_ok b66) ?_
  refine Z0 ?_
  rcases zit H67 with ⟨c68, H69⟩ | ⟨c68, H69⟩
  ·refine Z1 c68 ?_
   obtain rfl := Zi H69
   exact ZE0
  ·obtain ⟨t60, b70, H71⟩ := zbi H69
   refine Z1 c68 ?_
   refine ZC0 (ref17_item_ok b70) ?_
   refine Z1 c68 ?_
   rcases zit H71 with ⟨c72, H73⟩ | ⟨c72, H73⟩
   ·obtain ⟨t65, b74, H75⟩ := zbi H73
    refine Z1 (Y2 c68 c72) ?_
    refine ZC0 (ref17_Acl_ok b74) ?_
    refine Z1 (Y2 c68 c72) ?_
    rcases zit H75 with ⟨c76, H77⟩ | ⟨c76, H77⟩
    ·refine Z1 (Y3 c68 c72 c76) ?_
     rcases zit H77 with ⟨c78, H79⟩ | ⟨c78, H79⟩
     ·obtain ⟨x4, b80, H81⟩ := zbi H79
      obtain ⟨h82, h83⟩ := zix b80
      try simp only [Int.reduceToNat, Int.toNat_natCast] at h83
      have h84 := map_at eGEntry h83
      refine Z1 (Y6 c68 c72 c76 c78 (zno .i64 h82) h84) ?_
      rcases zit H81 with ⟨c86, H87⟩ | ⟨c86, H87⟩
      ·refine Z1 (Y2 (Y6 c68 c72 c76 c78 (zno .i64 h82) h84) c86) ?_
       obtain rfl := Zi H87
       exact ZE0
      ·refine Z1 (Y2 (Y6 c68 c72 c76 c78 (zno .i64 h82) h84) c86) ?_
       obtain rfl := Zi H87
       exact ZE0
     ·refine Z1 (Y4 c68 c72 c76 c78) ?_
      obtain rfl := Zi H79
      exact ZE0
    ·refine Z1 (Y3 c68 c72 c76) ?_
     obtain rfl := Zi H77
     exact ZE0
   ·refine Z1 (Y2 c68 c72) ?_
    obtain rfl := Zi H73
    exact ZE0
def ref17_Valid_L1 (n : Nat) (t0 : List GFile) : Nat → Int → Option ((Unit) ⊕ (Int × Int))
 | 0, _ => none
 | c + 1, t4 =>
  (if (decide (t4 < (t0.length : Int))) then
   (ref17_fact n t0 t4).bind fun t162 =>
   (if (t162 != 0) then
    (idx t0 t4).bind fun x2 =>
    some (.inr (x2.at_, t162))
   else
    ref17_Valid_L1 n t0 c (IntKind.i64.wrap (t4 + 1)))
  else
   some (.inl ()))
def ref17_Valid_L2 (n : Nat) (t0 : List GFile) : Nat → Int → Option ((Unit) ⊕ (Int × Int))
 | 0, _ => none
 | c + 1, t6 =>
  (if (decide (t6 < (t0.length : Int))) then
   (idx t0 t6).bind fun x4 =>
   (if (x4.name.toList == ({ data := #[47] } : ByteArray).toList) then
    (if (x4.kind == 4) then
     some (.inr (x4.at_, 21))
    else
     (ref17_item n x4).bind fun t453 =>
     (if t453 then
      ref17_Valid_L2 n t0 c (IntKind.i64.wrap (t6 + 1))
     else
      ref17_Valid_L2 n t0 c (IntKind.i64.wrap (t6 + 1))))
   else
    (ref17_item n x4).bind fun t454 =>
    (if t454 then
     (ref17_Parent n x4.name).bind fun t552 =>
     (ref17_told n t0 3 t552).bind fun t562 =>
     (if t562 then
      ref17_Valid_L2 n t0 c (IntKind.i64.wrap (t6 + 1))
     else
      some (.inr (x4.at_, 21)))
    else
     ref17_Valid_L2 n t0 c (IntKind.i64.wrap (t6 + 1))))
  else
   some (.inl ()))
def ref17_Valid (n : Nat) (t0 : List GFile) : Option (Int × Int) :=
 (
  ref17_Valid_L1 n t0 n 0 : Option ((Unit) ⊕ (Int × Int))).bind fun
  | .inl _ =>
   (
    ref17_Valid_L2 n t0 n 0 : Option ((Unit) ⊕ (Int × Int))).bind fun
    | .inl _ =>
     some (0, 0)
    | .inr r => some r
  | .inr r => some r
theorem ref17_Valid_ok {n : Nat} {t0 : List GFile} {r : Int × Int} (H : ref17_Valid n t0 = some r) : PureOK Tryz.prog 23 [D.sl (List.map eGFile t0)] (D.tu [D.v (.int .i64 r.1), D.v (.int .i64 r.2)]) true := by
 unfold ref17_Valid at H
 refine ZP tab_ok fol (rs := #[.tmp 2, .tmp 3]) Tryz.func23 ?_
 refine zsq (ZT 1 ?_)
 refine Z0 ?_
 refine zsq (zsq ?_)
 refine ZT 1 ?_
 refine Z0 ?_
 obtain ⟨e_, E1, H2⟩ := zbi H
 refine zjn (α := { y : Unit // e_ = .inl y }) (fun | ⟨_, _⟩ => ⟨upd 0 (.d (.sl (List.map eGFile t0)) true) noFr, noHp, 0⟩) ?_ ?_
 ·refine zbk ?_
  refine zlp (α := { q : Nat × Int // ref17_Valid_L1 n t0 q.1 q.2 = some e_ }) (fun | ⟨⟨c, t4⟩, _⟩ => ⟨upd 0 (.d (.sl (List.map eGFile t0)) true) (upd 4 (.v (.int .i64 t4)) noFr), noHp, 0⟩) (fun q => q.1.1) ⟨(n, 0), E1⟩ ?_ ?_
  ·exact ZR []
  ·rintro ⟨⟨c, t4⟩, L3⟩
   rcases c with _ | c
   ·exact Zx L3
   ·unfold ref17_Valid_L1 at L3
    try dsimp only at L3
    refine ZT 1 ?_
    refine Z0 ?_
    rcases zit L3 with ⟨c16, H17⟩ | ⟨c16, H17⟩
    ·obtain ⟨t162, b18, H19⟩ := zbi H17
     refine Z1 c16 ?_
     refine ZC0 (ref17_fact_ok b18) ?_
     refine Z1 c16 ?_
     rcases zit H19 with ⟨c20, H21⟩ | ⟨c20, H21⟩
     ·obtain ⟨x2, b22, H23⟩ := zbi H21
      obtain ⟨h24, h25⟩ := zix b22
      try simp only [Int.reduceToNat, Int.toNat_natCast] at h25
      have h26 := map_at eGFile h25
      refine Z1 (Y4 c16 c20 (zno .i64 h24) h26) ?_
      obtain rfl := Zi H23
      obtain rfl := Zi H2
      exact ZE0
     ·refine Z1 (Y2 c16 c20) ?_
      exact ⟨⟨(c, (IntKind.i64.wrap (t4 + 1))), H21⟩, ZR [], Nat.lt_succ_self _⟩
    ·refine Z1 c16 ?_
     obtain rfl := Zi H17
     exact ⟨⟨(), rfl⟩, ZR []⟩
 ·rintro ⟨_, he84⟩
  obtain rfl := he84.symm
  try dsimp only at H2
  refine zsq (zsq ?_)
  refine ZT 1 ?_
  refine Z0 ?_
  obtain ⟨e_2, E28, H29⟩ := zbi H2
  refine zjn (α := { y : Unit // e_2 = .inl y }) (fun | ⟨_, _⟩ => ⟨noFr, noHp, 0⟩) ?_ ?_
  ·refine zbk ?_
   refine zlp (α := { q : Nat × Int // ref17_Valid_L2 n t0 q.1 q.2 = some e_2 }) (fun | ⟨⟨c, t6⟩, _⟩ => ⟨upd 0 (.d (.sl (List.map eGFile t0)) true) (upd 6 (.v (.int .i64 t6)) noFr), noHp, 0⟩) (fun q => q.1.1) ⟨(n, 0), E28⟩ ?_ ?_
   ·exact ZR []
   ·rintro ⟨⟨c, t6⟩, L30⟩
    rcases c with _ | c
    ·exact Zx L30
    ·unfold ref17_Valid_L2 at L30
     try dsimp only at L30
     refine ZT 1 ?_
     refine Z0 ?_
     rcases zit L30 with ⟨c57, H58⟩ | ⟨c57, H58⟩
     ·obtain ⟨x4, b59, H60⟩ := zbi H58
      obtain ⟨h61, h62⟩ := zix b59
      try simp only [Int.reduceToNat, Int.toNat_natCast] at h62
      have h63 := map_at eGFile h62
      refine Z1 (Y3 c57 (zno .i64 h61) h63) ?_
      rcases zit H60 with ⟨c65, H66⟩ | ⟨c65, H66⟩
      ·refine Z1 (Y4 c57 (zno .i64 h61) h63 c65) ?_
       rcases zit H66 with ⟨c67, H68⟩ | ⟨c67, H68⟩
       ·refine Z1 (Y5 c57 (zno .i64 h61) h63 c65 c67) ?_
        obtain rfl := Zi H68
        obtain rfl := Zi H29
        exact ZE0
       ·obtain ⟨t453, b69, H70⟩ := zbi H68
        refine Z1 (Y5 c57 (zno .i64 h61) h63 c65 c67) ?_
        refine ZC0 (ref17_item_ok b69) ?_
        refine Z1 (Y5 c57 (zno .i64 h61) h63 c65 c67) ?_
        rcases zit H70 with ⟨c71, H72⟩ | ⟨c71, H72⟩
        ·refine Z1 (Y6 c57 (zno .i64 h61) h63 c65 c67 c71) ?_
         exact ⟨⟨(c, (IntKind.i64.wrap (t6 + 1))), H72⟩, ZR [], Nat.lt_succ_self _⟩
        ·refine Z1 (Y6 c57 (zno .i64 h61) h63 c65 c67 c71) ?_
         exact ⟨⟨(c, (IntKind.i64.wrap (t6 + 1))), H72⟩, ZR [], Nat.lt_succ_self _⟩
      ·obtain ⟨t454, b73, H74⟩ := zbi H66
       refine Z1 (Y4 c57 (zno .i64 h61) h63 c65) ?_
       refine ZC0 (ref17_item_ok b73) ?_
       refine Z1 (Y4 c57 (zno .i64 h61) h63 c65) ?_
       rcases zit H74 with ⟨c75, H76⟩ | ⟨c75, H76⟩
       ·obtain ⟨t552, b77, H78⟩ := zbi H76
        refine Z1 (Y5 c57 (zno .i64 h61) h63 c65 c75) ?_
        refine ZC0 (ref17_Parent_ok b77) ?_
        obtain ⟨t562, b79, H80⟩ := zbi H78
        refine Z1 (Y5 c57 (zno .i64 h61) h63 c65 c75) ?_
        refine ZC0 (ref17_told_ok b79) ?_
        refine Z1 (Y5 c57 (zno .i64 h61) h63 c65 c75) ?_
        rcases zit H80 with ⟨c81, H82⟩ | ⟨c81, H82⟩
        ·refine Z1 (Y6 c57 (zno .i64 h61) h63 c65 c75 c81) ?_
         exact ⟨⟨(c, (IntKind.i64.wrap (t6 + 1))), H82⟩, ZR [], Nat.lt_succ_self _⟩
        ·refine Z1 (Y6 c57 (zno .i64 h61) h63 c65 c75 c81) ?_
         obtain rfl := Zi H82
         obtain rfl := Zi H29
         exact ZE0
       ·refine Z1 (Y5 c57 (zno .i64 h61) h63 c65 c75) ?_
        exact ⟨⟨(c, (IntKind.i64.wrap (t6 + 1))), H76⟩, ZR [], Nat.lt_succ_self _⟩
     ·refine Z1 c57 ?_
      obtain rfl := Zi H58
      exact ⟨⟨(), rfl⟩, ZR []⟩
  ·rintro ⟨_, he83⟩
   obtain rfl := he83.symm
   try dsimp only at H29
   refine ZT 1 ?_
   refine Z0 ?_
   obtain rfl := Zi H29
   exact ZE0
def ref1_words_L2 (n : Nat) (s : ByteArray) : Nat → Int → Option (Int)
 | 0, _ => none
 | c + 1, k5 =>
  (if (decide (k5 < (s.size : Int))) then
   (bidx s k5).bind fun ch8 =>
   (if (ch8 != 32) then
    (if (ch8 != 9) then
     ref1_words_L2 n s c (IntKind.i64.wrap (k5 + 1))
    else
     some k5)
   else
    some k5)
  else
   some k5)
def ref1_words_L1 (n : Nat) (s : ByteArray) (at_ : Int) : Nat → (List GWord × Int) → Option ((List GWord) ⊕ (List GWord))
 | 0, _ => none
 | c + 1, (out, i) =>
  (if (decide (i < (s.size : Int))) then
   (
    (bidx s i).bind fun ch5 =>
    (if (ch5 == 32) then
     some true
    else
     some (ch5 == 9)) : Option (Bool)).bind fun t212 =>
   (if t212 then
    ref1_words_L1 n s at_ c (out, (IntKind.i64.wrap (i + 1)))
   else
    (bidx s i).bind fun ch6 =>
    (if (ch6 == 35) then
     some (.inr out)
    else
     (
      ref1_words_L2 n s n i : Option (Int)).bind fun k7 =>
     (bslc s i k7).bind fun s3 =>
     (app out [(⟨s3, (IntKind.i64.wrap (at_ + i))⟩ : GWord)]).bind fun l =>
     ref1_words_L1 n s at_ c (l, k7)))
  else
   some (.inl out))
def ref1_words (n : Nat) (s : ByteArray) (at_ : Int) : Option (List GWord) :=
 (
  ref1_words_L1 n s at_ n ([], 0) : Option ((List GWord) ⊕ (List GWord))).bind fun
  | .inl out3 =>
   some out3
  | .inr r => some r
theorem ref1_words_ok {n : Nat} {s : ByteArray} {at_ : Int} {r : List GWord} (H : ref1_words n s at_ = some r) : PureOK Tryz.prog 82 [D.v (.string s), D.v (.int .i64 at_)] (D.sl (List.map eGWord r)) true := by
 unfold ref1_words at H
 refine ZP tab_ok fol (rs := #[.tmp 4]) Tryz.func82 ?_
 refine zsq (ZT 1 ?_)
 refine Z0 ?_
 refine zsq (ZT 1 ?_)
 refine Z0 ?_
 refine zsq (ZT 1 ?_)
 refine Z0 ?_
 refine zsq ?_
 obtain ⟨e_, E1, H2⟩ := zbi H
 refine zjn (α := { y : List GWord // e_ = .inl y } × Nat) (fun | ⟨⟨out3, _⟩, g8⟩ => ⟨upd 5 (accV 0 g8 (List.map eGWord out3)) noFr, upd 0 (accO 2 g8 false (List.map eGWord out3)) noHp, 1⟩) ?_ ?_
 ·refine zbk ?_
  refine zlp (α := { q : (Nat × (List GWord × Int)) × Nat // ref1_words_L1 n s at_ q.1.1 q.1.2 = some e_ }) (fun | ⟨⟨⟨c, ⟨out, i⟩⟩, g⟩, _⟩ => ⟨upd 0 (.v (.string s)) (upd 1 (.v (.int .i64 at_)) (upd 5 (accV 0 g (List.map eGWord out)) (upd 6 (.v (.int .i64 i)) noFr))), upd 0 (accO 2 g false (List.map eGWord out)) noHp, 1⟩) (fun q => q.1.1.1) ⟨((n, ([], 0)), 0), E1⟩ ?_ ?_
  ·exact ZR []
  ·rintro ⟨⟨⟨c, ⟨out, i⟩⟩, g⟩, L3⟩
   rcases c with _ | c
   ·exact Zx L3
   ·unfold ref1_words_L1 at L3
    try dsimp only at L3
    refine zsq (ZT 1 ?_)
    refine Z0 ?_
    rcases zit L3 with ⟨c60, H61⟩ | ⟨c60, H61⟩
    ·refine Z1 c60 ?_
     refine zbk ?_
     refine zsq (zsq ?_)
     obtain ⟨e_4, E62, H63⟩ := zbi H61
     refine zjn (α := { y : Bool // e_4 = y } × Nat) (fun | ⟨⟨t212, _⟩, g2⟩ => ⟨upd 0 (.v (.string s)) (upd 1 (.v (.int .i64 at_)) (upd 5 (accV 0 g2 (List.map eGWord out)) (upd 6 (.v (.int .i64 i)) (upd 21 (.v (.bool t212)) noFr)))), upd 0 (accO 2 g2 false (List.map eGWord out)) noHp, 1⟩) ?_ ?_
     ·refine ZT 1 ?_
      obtain ⟨ch5, b64, H65⟩ := zbi E62
      obtain ⟨h66, by_5, h67, h68⟩ := zbx b64
      try simp only [Int.reduceToNat, Int.toNat_natCast] at h67
      refine Z1 (Y3 (zno .i64 h66) h67 h68.symm) ?_
      rcases zit H65 with ⟨c69, H70⟩ | ⟨c69, H70⟩
      ·refine Z1 (Y4 (zno .i64 h66) h67 h68.symm c69) ?_
       obtain rfl := Zi H70
       exact ⟨⟨⟨true, rfl⟩, g⟩, ZR [(0, 0)]⟩
      ·refine Z1 (Y4 (zno .i64 h66) h67 h68.symm c69) ?_
       obtain rfl := Zi H70
       exact ⟨⟨⟨(ch5 == 9), rfl⟩, g⟩, ZR [(0, 0)]⟩
     ·rintro ⟨⟨t212, he123⟩, g2⟩
      obtain rfl := he123.symm
      try dsimp only at H63
      refine ZT 1 ?_
      refine Z0 ?_
      rcases zit H63 with ⟨c71, H72⟩ | ⟨c71, H72⟩
      ·refine Z1 c71 ?_
       exact ⟨⟨((c, (out, (IntKind.i64.wrap (i + 1)))), g2), H72⟩, ZR [(0, 0)], Nat.lt_succ_self _⟩
      ·refine Z1 c71 ?_
       refine zsq (ZT 1 ?_)
       obtain ⟨ch6, b73, H74⟩ := zbi H72
       obtain ⟨h75, by_6, h76, h77⟩ := zbx b73
       try simp only [Int.reduceToNat, Int.toNat_natCast] at h76
       refine Z1 (Y4 c71 (zno .i64 h75) h76 h77.symm) ?_
       rcases zit H74 with ⟨c78, H79⟩ | ⟨c78, H79⟩
       ·refine Z1 (Y5 c71 (zno .i64 h75) h76 h77.symm c78) ?_
        obtain rfl := Zi H79
        obtain rfl := Zi H2
        exact ZE1 (Y5 c71 (zno .i64 h75) h76 h77.symm c78)
       ·refine Z1 (Y5 c71 (zno .i64 h75) h76 h77.symm c78) ?_
        refine zsq (ZT 1 ?_)
        refine Z1 (Y5 c71 (zno .i64 h75) h76 h77.symm c78) ?_
        refine zsq ?_
        obtain ⟨e_5, E80, H81⟩ := zbi H79
        refine zjn (α := { y : Int // e_5 = y } × Nat) (fun | ⟨⟨k7, _⟩, g6⟩ => ⟨upd 0 (.v (.string s)) (upd 1 (.v (.int .i64 at_)) (upd 5 (accV 0 g6 (List.map eGWord out)) (upd 6 (.v (.int .i64 i)) (upd 7 (.v (.int .i64 k7)) noFr)))), upd 0 (accO 2 g6 false (List.map eGWord out)) noHp, 1⟩) ?_ ?_
        ·refine zbk ?_
         refine zlp (α := { q : (Nat × Int) × Nat // ref1_words_L2 n s q.1.1 q.1.2 = some e_5 }) (fun | ⟨⟨⟨c, k5⟩, g4⟩, _⟩ => ⟨upd 0 (.v (.string s)) (upd 1 (.v (.int .i64 at_)) (upd 5 (accV 0 g4 (List.map eGWord out)) (upd 6 (.v (.int .i64 i)) (upd 7 (.v (.int .i64 k5)) noFr)))), upd 0 (accO 2 g4 false (List.map eGWord out)) noHp, 1⟩) (fun q => q.1.1.1) ⟨((n, i), g2), E80⟩ ?_ ?_
         ·exact ZR [(0, 0)]
         ·rintro ⟨⟨⟨c, k5⟩, g4⟩, L82⟩
          rcases c with _ | c
          ·exact Zx L82
          ·unfold ref1_words_L2 at L82
           try dsimp only at L82
           refine ZT 1 ?_
           refine Z0 ?_
           rcases zit L82 with ⟨c94, H95⟩ | ⟨c94, H95⟩
           ·obtain ⟨ch8, b96, H97⟩ := zbi H95
            obtain ⟨h98, by_8, h99, h100⟩ := zbx b96
            try simp only [Int.reduceToNat, Int.toNat_natCast] at h99
            refine Z1 (Y4 c94 (zno .i64 h98) h99 h100.symm) ?_
            rcases zit H97 with ⟨c101, H102⟩ | ⟨c101, H102⟩
            ·refine Z1 (Y5 c94 (zno .i64 h98) h99 h100.symm c101) ?_
             rcases zit H102 with ⟨c103, H104⟩ | ⟨c103, H104⟩
             ·refine Z1 (Y6 c94 (zno .i64 h98) h99 h100.symm c101 c103) ?_
              exact ⟨⟨((c, (IntKind.i64.wrap (k5 + 1))), g4), H104⟩, ZR [(0, 0)], Nat.lt_succ_self _⟩
             ·refine Z1 (Y6 c94 (zno .i64 h98) h99 h100.symm c101 c103) ?_
              obtain rfl := Zi H104
              exact ⟨⟨⟨k5, rfl⟩, g4⟩, ZR [(0, 0)]⟩
            ·refine Z1 (Y5 c94 (zno .i64 h98) h99 h100.symm c101) ?_
             obtain rfl := Zi H102
             exact ⟨⟨⟨k5, rfl⟩, g4⟩, ZR [(0, 0)]⟩
           ·refine Z1 c94 ?_
            obtain rfl := Zi H95
            exact ⟨⟨⟨k5, rfl⟩, g4⟩, ZR [(0, 0)]⟩
        ·rintro ⟨⟨k7, he122⟩, g6⟩
         obtain rfl := he122.symm
         try dsimp only at H81
         refine ZT 2 ?_
         obtain ⟨s3, b105, H106⟩ := zbi H81
         obtain ⟨h107, h108, h109, h110⟩ := zbs b105
         have h111 : Int.toNat i ≤ Int.toNat k7 := by omega
         have h112 : Int.toNat k7 ≤ s.size := by omega
         have h113 : ByteArray.extract s (Int.toNat i) (Int.toNat k7) = s3 := h110.symm
         try simp only [Int.toNat_natCast] at h111 h112 h113
         obtain ⟨l, b114, H115⟩ := zbi H106
         obtain ⟨h116, h117⟩ := app_inv b114
         have h116 : out.length + 1 ≤ 4294967296 := h116
         have h118 : List.map eGWord out ++ [[.v (.string s3), .v (.int .i64 (IntKind.i64.wrap (at_ + i)))]] = List.map eGWord l := app_map eGWord h117
         have h119 : out.length + 1 = l.length := app_len h117
         have h120 : l.length ≤ 4294967296 := by omega
         have q121 : 0 < l.length := by omega
         refine Z1 (Y2 (Y6 (zno .i64 h107) (zno .i64 (Int.le_trans h107 h108)) h111 h112 h113 h116) (Y3 h118 h119 h120)) ?_
         rcases out with _ | ⟨q0, q1⟩
         ·try simp only [List.map_nil, accI, accN]
          exact ⟨⟨((c, (l, k7)), 0), H115⟩, ZR [(0, 11)], Nat.lt_succ_self _⟩
         ·try simp only [List.map_cons, accI, accN]
          exact ⟨⟨((c, (l, k7)), (g6 + 1)), H115⟩, ZR [(0, 0)], Nat.lt_succ_self _⟩
    ·refine Z1 c60 ?_
     obtain rfl := Zi H61
     exact ⟨⟨⟨out, rfl⟩, g⟩, ZR [(0, 0)]⟩
 ·rintro ⟨⟨out3, he124⟩, g8⟩
  obtain rfl := he124.symm
  try dsimp only at H2
  refine ZT 1 ?_
  refine Z0 ?_
  obtain rfl := Zi H2
  exact ZE0
def ref1_Lines_L1 (n : Nat) (t0 : ByteArray) : Nat → (Int × Int) → Option (Int)
 | 0, _ => none
 | c + 1, (t5, t6) =>
  (if (decide (t6 < (t0.size : Int))) then
   (bidx t0 t6).bind fun ch2 =>
   (if (ch2 == 10) then
    ref1_Lines_L1 n t0 c ((IntKind.i64.wrap (t5 + 1)), (IntKind.i64.wrap (t6 + 1)))
   else
    ref1_Lines_L1 n t0 c (t5, (IntKind.i64.wrap (t6 + 1))))
  else
   some t5)
def ref1_Lines_L2 (n : Nat) (t0 : ByteArray) : Nat → Int → Option ((Unit) ⊕ (List GLine × Int × Int))
 | 0, _ => none
 | c + 1, t7 =>
  (if (decide (t7 < (t0.size : Int))) then
   (bidx t0 t7).bind fun ch5 =>
   (if (ch5 == 13) then
    (if ((IntKind.i64.wrap (t7 + 1)) == (t0.size : Int)) then
     ref1_Lines_L2 n t0 c (IntKind.i64.wrap (t7 + 1))
    else
     (bidx t0 (IntKind.i64.wrap (t7 + 1))).bind fun ch6 =>
     (if (ch6 == 10) then
      ref1_Lines_L2 n t0 c (IntKind.i64.wrap (t7 + 1))
     else
      (if (ch5 == 9) then
       ref1_Lines_L2 n t0 c (IntKind.i64.wrap (t7 + 1))
      else
       (if (ch5 == 10) then
        ref1_Lines_L2 n t0 c (IntKind.i64.wrap (t7 + 1))
       else
        (if (decide (32 ≤ ch5)) then
         (if (decide (ch5 ≤ 126)) then
          ref1_Lines_L2 n t0 c (IntKind.i64.wrap (t7 + 1))
         else
          some (.inr ([], t7, 7)))
        else
         some (.inr ([], t7, 7)))))))
   else
    (if (ch5 == 9) then
     ref1_Lines_L2 n t0 c (IntKind.i64.wrap (t7 + 1))
    else
     (if (ch5 == 10) then
      ref1_Lines_L2 n t0 c (IntKind.i64.wrap (t7 + 1))
     else
      (if (decide (32 ≤ ch5)) then
       (if (decide (ch5 ≤ 126)) then
        ref1_Lines_L2 n t0 c (IntKind.i64.wrap (t7 + 1))
       else
        some (.inr ([], t7, 7)))
      else
       some (.inr ([], t7, 7))))))
  else
   some (.inl ()))
def ref1_Lines_L3 (n : Nat) (t0 : ByteArray) : Nat → (List GLine × Int × Int) → Option (List GLine)
 | 0, _ => none
 | c + 1, (t9, t10, t11) =>
  (if (decide (t11 ≤ (t0.size : Int))) then
   (
    (if (decide (t11 < (t0.size : Int))) then
     (bidx t0 t11).bind fun ch8 =>
     some (ch8 != 10)
    else
     some false) : Option (Bool)).bind fun t902 =>
   (if t902 then
    ref1_Lines_L3 n t0 c (t9, t10, (IntKind.i64.wrap (t11 + 1)))
   else
    (
     (if (decide (t10 < t11)) then
      (bidx t0 (IntKind.i64.wrap (t11 - 1))).bind fun ch9 =>
      some (ch9 == 13)
     else
      some false) : Option (Bool)).bind fun t101 =>
    (
     (if t101 then
      some (IntKind.i64.wrap (t11 - 1))
     else
      some t11) : Option (Int)).bind fun t12 =>
    (bslc t0 t10 t12).bind fun s2 =>
    (ref1_words n s2 t10).bind fun t1092 =>
    (if (decide (0 < (t1092.length : Int))) then
     (idx t1092 0).bind fun x2 =>
     (app t9 [(⟨x2.at_, t1092⟩ : GLine)]).bind fun l =>
     ref1_Lines_L3 n t0 c (l, (IntKind.i64.wrap (t11 + 1)), (IntKind.i64.wrap (t11 + 1)))
    else
     ref1_Lines_L3 n t0 c (t9, (IntKind.i64.wrap (t11 + 1)), (IntKind.i64.wrap (t11 + 1)))))
  else
   some t9)
def ref1_Lines (n : Nat) (t0 : ByteArray) : Option (List GLine × Int × Int) :=
 (
  ref1_Lines_L1 n t0 n (0, 0) : Option (Int)).bind fun t53 =>
 (
  (if (decide (200000 < (t0.size : Int))) then
   some true
  else
   some (decide (5000 < t53))) : Option (Bool)).bind fun t32 =>
 (if t32 then
  some ([], 0, 8)
 else
  (
   ref1_Lines_L2 n t0 n 0 : Option ((Unit) ⊕ (List GLine × Int × Int))).bind fun
   | .inl _ =>
    (
     ref1_Lines_L3 n t0 n ([], 0, 0) : Option (List GLine)).bind fun t93 =>
    some (t93, 0, 0)
   | .inr r => some r)
set_option maxHeartbeats 8000000 in
theorem ref1_Lines_ok {n : Nat} {t0 : ByteArray} {r : List GLine × Int × Int} (H : ref1_Lines n t0 = some r) : PureOK Tryz.prog 54 [D.v (.string t0)] (D.tu [D.sl (List.map eGLine r.1), D.v (.int .i64 r.2.1), D.v (.int .i64 r.2.2)]) true := by
 unfold ref1_Lines at H
 refine ZP tab_ok fol (rs := #[.tmp 2, .tmp 3, .tmp 4]) Tryz.func54 ?_
 refine zsq (ZT 1 ?_)
 refine Z0 ?_
 refine zsq (ZT 1 ?_)
 refine Z0 ?_
 refine zsq (zsq ?_)
 refine ZT 1 ?_
 refine Z0 ?_
 obtain ⟨e_, E1, H2⟩ := zbi H
 refine zjn (α := { y : Int // e_ = y }) (fun | ⟨t53, _⟩ => ⟨upd 0 (.v (.string t0)) (upd 5 (.v (.int .i64 t53)) noFr), noHp, 0⟩) ?_ ?_
 ·refine zbk ?_
  refine zlp (α := { q : Nat × (Int × Int) // ref1_Lines_L1 n t0 q.1 q.2 = some e_ }) (fun | ⟨⟨c, ⟨t5, t6⟩⟩, _⟩ => ⟨upd 0 (.v (.string t0)) (upd 5 (.v (.int .i64 t5)) (upd 6 (.v (.int .i64 t6)) noFr)), noHp, 0⟩) (fun q => q.1.1) ⟨(n, (0, 0)), E1⟩ ?_ ?_
  ·exact ZR []
  ·rintro ⟨⟨c, ⟨t5, t6⟩⟩, L3⟩
   rcases c with _ | c
   ·exact Zx L3
   ·unfold ref1_Lines_L1 at L3
    try dsimp only at L3
    refine ZT 1 ?_
    refine Z0 ?_
    rcases zit L3 with ⟨c13, H14⟩ | ⟨c13, H14⟩
    ·obtain ⟨ch2, b15, H16⟩ := zbi H14
     obtain ⟨h17, by_2, h18, h19⟩ := zbx b15
     try simp only [Int.reduceToNat, Int.toNat_natCast] at h18
     refine Z1 (Y4 c13 (zno .i64 h17) h18 h19.symm) ?_
     rcases zit H16 with ⟨c20, H21⟩ | ⟨c20, H21⟩
     ·refine Z1 (Y5 c13 (zno .i64 h17) h18 h19.symm c20) ?_
      exact ⟨⟨(c, ((IntKind.i64.wrap (t5 + 1)), (IntKind.i64.wrap (t6 + 1)))), H21⟩, ZR [], Nat.lt_succ_self _⟩
     ·refine Z1 (Y5 c13 (zno .i64 h17) h18 h19.symm c20) ?_
      exact ⟨⟨(c, (t5, (IntKind.i64.wrap (t6 + 1)))), H21⟩, ZR [], Nat.lt_succ_self _⟩
    ·refine Z1 c13 ?_
     obtain rfl := Zi H14
     exact ⟨⟨t5, rfl⟩, ZR []⟩
 ·rintro ⟨t53, he200⟩
  obtain rfl := he200.symm
  try dsimp only at H2
  refine zsq (zsq ?_)
  obtain ⟨e_2, E22, H23⟩ := zbi H2
  refine zjn (α := { y : Bool // e_2 = y }) (fun | ⟨t32, _⟩ => ⟨upd 0 (.v (.string t0)) (upd 32 (.v (.bool t32)) noFr), noHp, 0⟩) ?_ ?_
  ·refine ZT 1 ?_
   refine Z0 ?_
   rcases zit E22 with ⟨c24, H25⟩ | ⟨c24, H25⟩
   ·refine Z1 c24 ?_
    obtain rfl := Zi H25
    exact ⟨⟨true, rfl⟩, ZR []⟩
   ·refine Z1 c24 ?_
    obtain rfl := Zi H25
    exact ⟨⟨(decide (5000 < t53)), rfl⟩, ZR []⟩
  ·rintro ⟨t32, he199⟩
   obtain rfl := he199.symm
   try dsimp only at H23
   refine ZT 1 ?_
   refine Z0 ?_
   rcases zit H23 with ⟨c26, H27⟩ | ⟨c26, H27⟩
   ·refine Z1 c26 ?_
    obtain rfl := Zi H27
    exact ZE0
   ·refine Z1 c26 ?_
    refine zsq (zsq ?_)
    refine ZT 1 ?_
    refine Z1 c26 ?_
    obtain ⟨e_3, E28, H29⟩ := zbi H27
    refine zjn (α := { y : Unit // e_3 = .inl y }) (fun | ⟨_, _⟩ => ⟨upd 0 (.v (.string t0)) noFr, noHp, 0⟩) ?_ ?_
    ·refine zbk ?_
     refine zlp (α := { q : Nat × Int // ref1_Lines_L2 n t0 q.1 q.2 = some e_3 }) (fun | ⟨⟨c, t7⟩, _⟩ => ⟨upd 0 (.v (.string t0)) (upd 7 (.v (.int .i64 t7)) noFr), noHp, 0⟩) (fun q => q.1.1) ⟨(n, 0), E28⟩ ?_ ?_
     ·exact ZR []
     ·rintro ⟨⟨c, t7⟩, L30⟩
      rcases c with _ | c
      ·exact Zx L30
      ·unfold ref1_Lines_L2 at L30
       try dsimp only at L30
       refine ZT 1 ?_
       refine Z0 ?_
       rcases zit L30 with ⟨c65, H66⟩ | ⟨c65, H66⟩
       ·obtain ⟨ch5, b67, H68⟩ := zbi H66
        obtain ⟨h69, by_5, h70, h71⟩ := zbx b67
        try simp only [Int.reduceToNat, Int.toNat_natCast] at h70
        refine Z1 (Y4 c65 (zno .i64 h69) h70 h71.symm) ?_
        rcases zit H68 with ⟨c72, H73⟩ | ⟨c72, H73⟩
        ·refine Z1 (Y5 c65 (zno .i64 h69) h70 h71.symm c72) ?_
         rcases zit H73 with ⟨c74, H75⟩ | ⟨c74, H75⟩
         ·refine Z1 (Y6 c65 (zno .i64 h69) h70 h71.symm c72 c74) ?_
          exact ⟨⟨(c, (IntKind.i64.wrap (t7 + 1))), H75⟩, ZR [], Nat.lt_succ_self _⟩
         ·obtain ⟨ch6, b76, H77⟩ := zbi H75
          obtain ⟨h78, by_6, h79, h80⟩ := zbx b76
          try simp only [Int.reduceToNat, Int.toNat_natCast] at h79
          refine Z1 (Y2 (Y6 c65 (zno .i64 h69) h70 h71.symm c72 c74) (Y3 (zno .i64 h78) h79 h80.symm)) ?_
          rcases zit H77 with ⟨c81, H82⟩ | ⟨c81, H82⟩
          ·refine Z1 (Y2 (Y6 c65 (zno .i64 h69) h70 h71.symm c72 c74) (Y4 (zno .i64 h78) h79 h80.symm c81)) ?_
           exact ⟨⟨(c, (IntKind.i64.wrap (t7 + 1))), H82⟩, ZR [], Nat.lt_succ_self _⟩
          ·refine Z1 (Y2 (Y6 c65 (zno .i64 h69) h70 h71.symm c72 c74) (Y4 (zno .i64 h78) h79 h80.symm c81)) ?_
           rcases zit H82 with ⟨c83, H84⟩ | ⟨c83, H84⟩
           ·refine Z1 (Y2 (Y6 c65 (zno .i64 h69) h70 h71.symm c72 c74) (Y5 (zno .i64 h78) h79 h80.symm c81 c83)) ?_
            exact ⟨⟨(c, (IntKind.i64.wrap (t7 + 1))), H84⟩, ZR [], Nat.lt_succ_self _⟩
           ·refine Z1 (Y2 (Y6 c65 (zno .i64 h69) h70 h71.symm c72 c74) (Y5 (zno .i64 h78) h79 h80.symm c81 c83)) ?_
            rcases zit H84 with ⟨c85, H86⟩ | ⟨c85, H86⟩
            ·refine Z1 (Y2 (Y6 c65 (zno .i64 h69) h70 h71.symm c72 c74) (Y6 (zno .i64 h78) h79 h80.symm c81 c83 c85)) ?_
             exact ⟨⟨(c, (IntKind.i64.wrap (t7 + 1))), H86⟩, ZR [], Nat.lt_succ_self _⟩
            ·refine Z1 (Y2 (Y6 c65 (zno .i64 h69) h70 h71.symm c72 c74) (Y6 (zno .i64 h78) h79 h80.symm c81 c83 c85)) ?_
             rcases zit H86 with ⟨c87, H88⟩ | ⟨c87, H88⟩
             ·refine Z1 (Y3 (Y6 c65 (zno .i64 h69) h70 h71.symm c72 c74) (Y6 (zno .i64 h78) h79 h80.symm c81 c83 c85) c87) ?_
              rcases zit H88 with ⟨c89, H90⟩ | ⟨c89, H90⟩
              ·refine Z1 (Y3 (Y6 c65 (zno .i64 h69) h70 h71.symm c72 c74) (Y6 (zno .i64 h78) h79 h80.symm c81 c83 c85) (Y2 c87 c89)) ?_
               exact ⟨⟨(c, (IntKind.i64.wrap (t7 + 1))), H90⟩, ZR [], Nat.lt_succ_self _⟩
              ·refine Z1 (Y3 (Y6 c65 (zno .i64 h69) h70 h71.symm c72 c74) (Y6 (zno .i64 h78) h79 h80.symm c81 c83 c85) (Y2 c87 c89)) ?_
               obtain rfl := Zi H90
               obtain rfl := Zi H29
               exact ZE0
             ·refine Z1 (Y3 (Y6 c65 (zno .i64 h69) h70 h71.symm c72 c74) (Y6 (zno .i64 h78) h79 h80.symm c81 c83 c85) c87) ?_
              obtain rfl := Zi H88
              obtain rfl := Zi H29
              exact ZE0
        ·refine Z1 (Y5 c65 (zno .i64 h69) h70 h71.symm c72) ?_
         rcases zit H73 with ⟨c91, H92⟩ | ⟨c91, H92⟩
         ·refine Z1 (Y6 c65 (zno .i64 h69) h70 h71.symm c72 c91) ?_
          exact ⟨⟨(c, (IntKind.i64.wrap (t7 + 1))), H92⟩, ZR [], Nat.lt_succ_self _⟩
         ·refine Z1 (Y6 c65 (zno .i64 h69) h70 h71.symm c72 c91) ?_
          rcases zit H92 with ⟨c93, H94⟩ | ⟨c93, H94⟩
          ·refine Z1 (Y2 (Y6 c65 (zno .i64 h69) h70 h71.symm c72 c91) c93) ?_
           exact ⟨⟨(c, (IntKind.i64.wrap (t7 + 1))), H94⟩, ZR [], Nat.lt_succ_self _⟩
          ·refine Z1 (Y2 (Y6 c65 (zno .i64 h69) h70 h71.symm c72 c91) c93) ?_
           rcases zit H94 with ⟨c95, H96⟩ | ⟨c95, H96⟩
           ·refine Z1 (Y2 (Y6 c65 (zno .i64 h69) h70 h71.symm c72 c91) (Y2 c93 c95)) ?_
            rcases zit H96 with ⟨c97, H98⟩ | ⟨c97, H98⟩
            ·refine Z1 (Y2 (Y6 c65 (zno .i64 h69) h70 h71.symm c72 c91) (Y3 c93 c95 c97)) ?_
             exact ⟨⟨(c, (IntKind.i64.wrap (t7 + 1))), H98⟩, ZR [], Nat.lt_succ_self _⟩
            ·refine Z1 (Y2 (Y6 c65 (zno .i64 h69) h70 h71.symm c72 c91) (Y3 c93 c95 c97)) ?_
             obtain rfl := Zi H98
             obtain rfl := Zi H29
             exact ZE0
           ·refine Z1 (Y2 (Y6 c65 (zno .i64 h69) h70 h71.symm c72 c91) (Y2 c93 c95)) ?_
            obtain rfl := Zi H96
            obtain rfl := Zi H29
            exact ZE0
       ·refine Z1 c65 ?_
        obtain rfl := Zi H66
        exact ⟨⟨(), rfl⟩, ZR []⟩
    ·rintro ⟨_, he198⟩
     obtain rfl := he198.symm
     try dsimp only at H29
     refine zsq (ZT 1 ?_)
     refine Z0 ?_
     refine zsq (ZT 1 ?_)
     refine Z0 ?_
     refine zsq (zsq ?_)
     refine ZT 1 ?_
     refine Z0 ?_
     obtain ⟨e_4, E99, H100⟩ := zbi H29
     refine zjn (α := { y : List GLine // e_4 = y } × Nat) (fun | ⟨⟨t93, _⟩, g6⟩ => ⟨upd 9 (accV 0 g6 (List.map eGLine t93)) noFr, upd 0 (accO 2 g6 false (List.map eGLine t93)) noHp, 1⟩) ?_ ?_
     ·refine zbk ?_
      refine zlp (α := { q : (Nat × (List GLine × Int × Int)) × Nat // ref1_Lines_L3 n t0 q.1.1 q.1.2 = some e_4 }) (fun | ⟨⟨⟨c, ⟨t9, t10, t11⟩⟩, g⟩, _⟩ => ⟨upd 0 (.v (.string t0)) (upd 9 (accV 0 g (List.map eGLine t9)) (upd 10 (.v (.int .i64 t10)) (upd 11 (.v (.int .i64 t11)) noFr))), upd 0 (accO 2 g false (List.map eGLine t9)) noHp, 1⟩) (fun q => q.1.1.1) ⟨((n, ([], 0, 0)), 0), E99⟩ ?_ ?_
      ·exact ZR []
      ·rintro ⟨⟨⟨c, ⟨t9, t10, t11⟩⟩, g⟩, L101⟩
       rcases c with _ | c
       ·exact Zx L101
       ·unfold ref1_Lines_L3 at L101
        try dsimp only at L101
        refine zsq (ZT 1 ?_)
        refine Z0 ?_
        rcases zit L101 with ⟨c141, H142⟩ | ⟨c141, H142⟩
        ·refine Z1 c141 ?_
         refine zsq (zbk ?_)
         refine zsq (zsq ?_)
         obtain ⟨e_8, E143, H144⟩ := zbi H142
         refine zjn (α := { y : Bool // e_8 = y } × Nat) (fun | ⟨⟨t902, _⟩, g2⟩ => ⟨upd 0 (.v (.string t0)) (upd 9 (accV 0 g2 (List.map eGLine t9)) (upd 10 (.v (.int .i64 t10)) (upd 11 (.v (.int .i64 t11)) (upd 90 (.v (.bool t902)) noFr)))), upd 0 (accO 2 g2 false (List.map eGLine t9)) noHp, 1⟩) ?_ ?_
         ·refine ZT 1 ?_
          refine Z0 ?_
          rcases zit E143 with ⟨c145, H146⟩ | ⟨c145, H146⟩
          ·obtain ⟨ch8, b147, H148⟩ := zbi H146
           obtain ⟨h149, by_8, h150, h151⟩ := zbx b147
           try simp only [Int.reduceToNat, Int.toNat_natCast] at h150
           refine Z1 (Y4 c145 (zno .i64 h149) h150 h151.symm) ?_
           obtain rfl := Zi H148
           exact ⟨⟨⟨(ch8 != 10), rfl⟩, g⟩, ZR [(0, 0)]⟩
          ·refine Z1 c145 ?_
           obtain rfl := Zi H146
           exact ⟨⟨⟨false, rfl⟩, g⟩, ZR [(0, 0)]⟩
         ·rintro ⟨⟨t902, he196⟩, g2⟩
          obtain rfl := he196.symm
          try dsimp only at H144
          refine ZT 1 ?_
          refine Z0 ?_
          rcases zit H144 with ⟨c152, H153⟩ | ⟨c152, H153⟩
          ·refine Z1 c152 ?_
           refine ZT 1 ?_
           refine Z1 c152 ?_
           exact ⟨⟨((c, (t9, t10, (IntKind.i64.wrap (t11 + 1)))), g2), H153⟩, ZR [(0, 0)], Nat.lt_succ_self _⟩
          ·refine Z1 c152 ?_
           refine zsq (ZT 1 ?_)
           refine Z1 c152 ?_
           refine zsq (zsq ?_)
           obtain ⟨e_9, E154, H155⟩ := zbi H153
           refine zjn (α := { y : Bool // e_9 = y } × Nat) (fun | ⟨⟨t101, _⟩, g3⟩ => ⟨upd 0 (.v (.string t0)) (upd 9 (accV 0 g3 (List.map eGLine t9)) (upd 10 (.v (.int .i64 t10)) (upd 11 (.v (.int .i64 t11)) (upd 12 (.v (.int .i64 t11)) (upd 101 (.v (.bool t101)) noFr))))), upd 0 (accO 2 g3 false (List.map eGLine t9)) noHp, 1⟩) ?_ ?_
           ·refine ZT 1 ?_
            refine Z0 ?_
            rcases zit E154 with ⟨c156, H157⟩ | ⟨c156, H157⟩
            ·obtain ⟨ch9, b158, H159⟩ := zbi H157
             obtain ⟨h160, by_9, h161, h162⟩ := zbx b158
             try simp only [Int.reduceToNat, Int.toNat_natCast] at h161
             refine Z1 (Y4 c156 (zno .i64 h160) h161 h162.symm) ?_
             obtain rfl := Zi H159
             exact ⟨⟨⟨(ch9 == 13), rfl⟩, g2⟩, ZR [(0, 0)]⟩
            ·refine Z1 c156 ?_
             obtain rfl := Zi H157
             exact ⟨⟨⟨false, rfl⟩, g2⟩, ZR [(0, 0)]⟩
           ·rintro ⟨⟨t101, he195⟩, g3⟩
            obtain rfl := he195.symm
            try dsimp only at H155
            obtain ⟨e_10, E163, H164⟩ := zbi H155
            refine zjn (α := { y : Int // e_10 = y } × Nat) (fun | ⟨⟨t12, _⟩, g4⟩ => ⟨upd 0 (.v (.string t0)) (upd 9 (accV 0 g4 (List.map eGLine t9)) (upd 10 (.v (.int .i64 t10)) (upd 11 (.v (.int .i64 t11)) (upd 12 (.v (.int .i64 t12)) noFr)))), upd 0 (accO 2 g4 false (List.map eGLine t9)) noHp, 1⟩) ?_ ?_
            ·refine ZT 1 ?_
             refine Z0 ?_
             rcases zit E163 with ⟨c165, H166⟩ | ⟨c165, H166⟩
             ·refine Z1 c165 ?_
              obtain rfl := Zi H166
              exact ⟨⟨⟨(IntKind.i64.wrap (t11 - 1)), rfl⟩, g3⟩, ZR [(0, 0)]⟩
             ·refine Z1 c165 ?_
              obtain rfl := Zi H166
              exact ⟨⟨⟨t11, rfl⟩, g3⟩, ZR [(0, 0)]⟩
            ·rintro ⟨⟨t12, he194⟩, g4⟩
             obtain rfl := he194.symm
             try dsimp only at H164
             refine ZT 3 ?_
             obtain ⟨s2, b167, H168⟩ := zbi H164
             obtain ⟨h169, h170, h171, h172⟩ := zbs b167
             have h173 : Int.toNat t10 ≤ Int.toNat t12 := by omega
             have h174 : Int.toNat t12 ≤ t0.size := by omega
             have h175 : ByteArray.extract t0 (Int.toNat t10) (Int.toNat t12) = s2 := h172.symm
             try simp only [Int.toNat_natCast] at h173 h174 h175
             obtain ⟨t1092, b176, H177⟩ := zbi H168
             refine Z1 (Y5 (zno .i64 h169) (zno .i64 (Int.le_trans h169 h170)) h173 h174 h175) ?_
             refine ZC0 (ref1_words_ok b176) ?_
             refine Z1 (Y5 (zno .i64 h169) (zno .i64 (Int.le_trans h169 h170)) h173 h174 h175) ?_
             rcases zit H177 with ⟨c178, H179⟩ | ⟨c178, H179⟩
             ·obtain ⟨x2, b180, H181⟩ := zbi H179
              obtain ⟨h182, h183⟩ := zix b180
              try simp only [Int.reduceToNat] at h183
              have h184 := map_at eGWord h183
              obtain ⟨l, b186, H187⟩ := zbi H181
              obtain ⟨h188, h189⟩ := app_inv b186
              have h188 : t9.length + 1 ≤ 4294967296 := h188
              have h190 : List.map eGLine t9 ++ [[.v (.int .i64 x2.at_), .sl (List.map eGWord t1092)]] = List.map eGLine l := app_map eGLine h189
              have h191 : t9.length + 1 = l.length := app_len h189
              have h192 : l.length ≤ 4294967296 := by omega
              have q193 : 0 < l.length := by omega
              refine Z1 (Y2 (Y6 (zno .i64 h169) (zno .i64 (Int.le_trans h169 h170)) h173 h174 h175 c178) (Y6 (zno .i64 h182) h184 h188 h190 h191 h192)) ?_
              rcases t9 with _ | ⟨q0, q1⟩
              ·try simp only [List.map_nil, accI, accN]
               exact ⟨⟨((c, (l, (IntKind.i64.wrap (t11 + 1)), (IntKind.i64.wrap (t11 + 1)))), 0), H187⟩, ZR [(0, 19)], Nat.lt_succ_self _⟩
              ·try simp only [List.map_cons, accI, accN]
               exact ⟨⟨((c, (l, (IntKind.i64.wrap (t11 + 1)), (IntKind.i64.wrap (t11 + 1)))), (g4 + 1)), H187⟩, ZR [(0, 0)], Nat.lt_succ_self _⟩
             ·refine Z1 (Y6 (zno .i64 h169) (zno .i64 (Int.le_trans h169 h170)) h173 h174 h175 c178) ?_
              exact ⟨⟨((c, (t9, (IntKind.i64.wrap (t11 + 1)), (IntKind.i64.wrap (t11 + 1)))), g4), H179⟩, ZR [(0, 0)], Nat.lt_succ_self _⟩
        ·refine Z1 c141 ?_
         obtain rfl := Zi H142
         exact ⟨⟨⟨t9, rfl⟩, g⟩, ZR [(0, 0)]⟩
     ·rintro ⟨⟨t93, he197⟩, g6⟩
      obtain rfl := he197.symm
      try dsimp only at H100
      refine ZT 1 ?_
      refine Z0 ?_
      obtain rfl := Zi H100
      exact ZE0
end Go.Proofs.YtgmhbmcdlkajdaaGreatDoor.Ab
