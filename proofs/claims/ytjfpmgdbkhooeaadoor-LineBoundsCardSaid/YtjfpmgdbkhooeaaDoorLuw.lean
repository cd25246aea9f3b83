/-
  LineBounds: by hand, for it makes rows of bytes out of a literal.
-/
import Derived.Test.YtjfpmgdbkhooeaaDoorLta
import Derived.Test.YtjfpmgdbkhooeaaDoorLpc
import Derived.Deep.LoopGhost
import Derived.Deep.OwnRows
import Derived.Deep.DeepCutAuto
import Derived.WalkSpells
import Derived.WalkLawsBesides
import Derived.StillTailTactics
import Derived.Handy
import Derived.Lib.Hide
import Derived.Lib.SlBytesConst
import Derived.Lib.SmallJoins
namespace Go.Proofs.YtjfpmgdbkhooeaaDoor.Ab
open Go.Shelf Go.RowKit
/-! ### plain -/
def litB : List UInt8 := [117, 115, 101, 114, 32, 97, 10, 114, 111, 108, 101, 32, 98, 10]
def goodC (A : Nat) (x : UInt8) : Bool := x == 9 || x == 10 || (decide (32 ≤ x.toNat) && decide (x.toNat ≤ 126)) || (x == 13 && (A == 5 || A == 12))
def adj (A : Nat) : Nat := if A = 6 ∨ A = 13 then A - 1 else A
theorem lit_chk : ((List.range 14).all fun A => (List.range 256).all fun c => badR (litB.set (adj A) (UInt8.ofNat c)) 0 == if goodC (adj A) (UInt8.ofNat c) then none else some (adj A)) = true := by kernel_rfl
theorem lit_bad {A : Nat} (hA : A < 14) (x : UInt8) : badR (litB.set (adj A) x) 0 = if goodC (adj A) x then none else some (adj A) := by
  have h := List.all_eq_true.1 (List.all_eq_true.1 lit_chk A (List.mem_range.2 hA)) x.toNat (List.mem_range.2 x.toNat_lt)
  rw [UInt8.ofNat_toNat] at h
  exact eq_of_beq h
theorem lines_a (N : Nat) : (linesF ⟨(List.replicate N (97 : UInt8)).toArray⟩).2.2 = if 200000 < N then 8 else 0 := by
  have hs : ByteArray.size ⟨(List.replicate N (97 : UInt8)).toArray⟩ = N := by simp [ByteArray.size]
  unfold linesF
  rw [hs]
  by_cases h : 200000 < N
  · rw [if_pos h, if_pos h]
  · rw [if_neg h, if_neg h]
    have hc : (List.replicate N (97 : UInt8)).count 10 = 0 := by
      rw [List.count_eq_zero]
      intro hm
      cases List.eq_of_mem_replicate hm
    have hb : ∀ (M a : Nat), badR (List.replicate M (97 : UInt8)) a = none := by
      intro M
      induction M with
      | zero => intro a; rfl
      | succ M ih => intro a; rw [List.replicate_succ]; exact ih _
    show (if 5000 < (List.replicate N (97 : UInt8)).count 10 then _ else _ : List GLine × Int × Int).2.2 = 0
    rw [hc, if_neg (by decide)]
    show (match badR (List.replicate N (97 : UInt8)) 0 with | some k => (([], (k : Int), 7) : List GLine × Int × Int) | none => _).2.2 = 0
    rw [hb]
theorem lines_b {K : Nat} (hK : K ≤ 200000) : (linesF ⟨(List.replicate K (10 : UInt8)).toArray⟩).2.2 = if 5000 < K then 8 else 0 := by
  have hs : ByteArray.size ⟨(List.replicate K (10 : UInt8)).toArray⟩ = K := by simp [ByteArray.size]
  unfold linesF
  rw [hs, if_neg (by omega)]
  show (if 5000 < (List.replicate K (10 : UInt8)).count 10 then _ else _ : List GLine × Int × Int).2.2 = _
  rw [List.count_replicate_self]
  by_cases h : 5000 < K
  · rw [if_pos h, if_pos h]
  · rw [if_neg h, if_neg h]
    have hb : ∀ (M a : Nat), badR (List.replicate M (10 : UInt8)) a = none := by
      intro M
      induction M with
      | zero => intro a; rfl
      | succ M ih => intro a; rw [List.replicate_succ]; exact ih _
    show (match badR (List.replicate K (10 : UInt8)) 0 with | some k => (([], (k : Int), 7) : List GLine × Int × Int) | none => _).2.2 = 0
    rw [hb]
theorem lines_s {A : Nat} (hA : A < 14) (x : UInt8) : (linesF ⟨(litB.set (adj A) x).toArray⟩).2.2 = (if goodC (adj A) x then 0 else 7) ∧ (goodC (adj A) x = false → (linesF ⟨(litB.set (adj A) x).toArray⟩).2.1 = (adj A : Nat)) := by
  have hs : ByteArray.size ⟨(litB.set (adj A) x).toArray⟩ = 14 := by simp [ByteArray.size, litB]
  have hc : (litB.set (adj A) x).count 10 ≤ 14 := by
    have := List.count_le_length (a := (10 : UInt8)) (l := litB.set (adj A) x)
    rwa [List.length_set] at this
  have e : linesF ⟨(litB.set (adj A) x).toArray⟩ = match (if goodC (adj A) x then none else some (adj A)) with
    | some k => ([], (k : Int), 7)
    | none => (linesP (cutL 10 (litB.set (adj A) x)) 0, 0, 0) := by
    unfold linesF
    rw [hs, if_neg (by decide)]
    show (if 5000 < (litB.set (adj A) x).count 10 then _ else _ : List GLine × Int × Int) = _
    rw [if_neg (by omega)]
    show (match badR (litB.set (adj A) x) 0 with | some k => (([], (k : Int), 7) : List GLine × Int × Int) | none => _) = _
    rw [lit_bad hA]
  rw [e]
  cases goodC (adj A) x <;> simp
/-! ### the calls -/
theorem lines_calls (s : ByteArray) (w : World) : Calls Tryd.prog 10 #[.string s] w fun e w' => ∃ v, e = .returned (.tuple #[v, .int .i64 (linesF s).2.1, .int .i64 (linesF s).2.2]) ∧ Below w.heap.size w w' := by
  refine ((line_Lines_ok (n := 1000001) (lines_some (s := s) (by decide))).2 w (fun _ => False) #[.string s] (fun _ h => h.elim) rfl fun j x hj => ?_).mono ?_
  · cases j with
    | zero => cases hj; exact ⟨_, rfl, .v _ rfl⟩
    | succ j => cases hj
  · rintro e w' ⟨u, rfl, ⟨h1, _⟩, h2⟩
    obtain ⟨vs, rfl, h3, h4⟩ := h2
    obtain ⟨v0, a0, b0⟩ := h4 0 _ rfl
    obtain ⟨v1, a1, b1⟩ := h4 1 _ rfl
    obtain ⟨v2, a2, b2⟩ := h4 2 _ rfl
    cases (show RC w' _ (.v _) v1 from b1)
    cases (show RC w' _ (.v _) v2 from b2)
    refine ⟨v0, ?_, h1⟩
    have h3 : vs.size = 3 := h3
    congr 2
    apply Array.ext
    · exact h3
    · intro i i1 i2
      have : i = 0 ∨ i = 1 ∨ i = 2 := by omega
      rcases this with rfl | rfl | rfl
      · simpa [i1] using a0
      · simpa [i1] using a1
      · simpa [i1] using a2
theorem awake_calls (w : World) : Calls Tryd.prog 11 #[] w fun e w' => e = .returned (.bool true) ∧ Below w.heap.size w w' := by
  refine ((law12_awake_ok (n := 1000001) (awake_some (by decide))).2 w (fun _ => False) #[] (fun _ h => h.elim) rfl fun j x hj => by cases hj).mono ?_
  rintro e w' ⟨u, rfl, ⟨h1, _⟩, h2⟩
  cases (show RC w' _ (.v (.bool true)) u from h2)
  exact ⟨rfl, h1⟩
/-! ### the walk -/
structure Two (w wx : World) (ba bb N K : Nat) (f g : Nat → Value) : Prop where
  below : Below w.heap.size w wx
  a : wx.rowIs ba 5 N f
  b : wx.rowIs bb 5 K g
  ha : w.heap.size ≤ ba
  hb : w.heap.size ≤ bb
  ne : ba ≠ bb
def u8 (k : Nat) : Value := .int .u8 k
def filled (i v : Nat) : Nat → Value := fun j => if j < i then u8 v else u8 0
theorem two_made1 (w : World) (N K : Nat) : Two w ((w.alloc (.cells (madeCells #[.int .u8 0] N) 5)).alloc (.cells (madeCells #[.int .u8 0] K) 5)).drew w.heap.size (w.heap.size + 1) N K (filled 0 97) (filled 0 10) := by
  have h1 := World.rowIs_made w (.int .u8 0) N 5
  have h2 := World.rowIs_made (w.alloc (.cells (madeCells #[.int .u8 0] N) 5)) (.int .u8 0) K 5
  rw [show (w.alloc (.cells (madeCells #[.int .u8 0] N) 5)).heap.size = w.heap.size + 1 by simp] at h2
  exact ⟨(((Below.refl _ w).alloc (Nat.le_refl _) _).alloc (by simp) _).drew, ((h1.alloc _).congr fun i _ => by simp [filled, u8]).drew, (h2.congr fun i _ => by simp [filled, u8]).drew, Nat.le_refl _, Nat.le_succ _, Nat.ne_of_lt (Nat.lt_succ_self _)⟩
theorem two_made2 (w : World) (N K : Nat) : Two w ((w.alloc (.cells (madeCells #[.int .u8 0] K) 5)).alloc (.cells (madeCells #[.int .u8 0] N) 5)).drew (w.heap.size + 1) w.heap.size N K (filled 0 97) (filled 0 10) := by
  have h := two_made1 w K N
  exact ⟨h.below, h.b.congr fun i _ => by simp [filled], h.a.congr fun i _ => by simp [filled], h.hb, h.ha, h.ne.symm⟩
theorem Two.setA {w wx : World} {ba bb N K i : Nat} {g : Nat → Value} (h : Two w wx ba bb N K (filled i 97) g) : Two w (wx.setCell ⟨ba, i, none⟩ (.int .u8 97)) ba bb N K (filled (i + 1) 97) g :=
  ⟨h.below.setCell (p := ⟨ba, i, none⟩) h.ha _, (h.a.set i _).congr fun j _ => by
    unfold filled u8
    by_cases e : j = i
    · rw [if_pos e, if_pos (by omega)]; rfl
    · rw [if_neg e]
      by_cases h : j < i
      · rw [if_pos h, if_pos (by omega)]
      · rw [if_neg h, if_neg (by omega)], h.b.setOther (fun e => h.ne e.symm) _, h.ha, h.hb, h.ne⟩
theorem Two.setB {w wx : World} {ba bb N K i : Nat} {f : Nat → Value} (h : Two w wx ba bb N K f (filled i 10)) : Two w (wx.setCell ⟨bb, i, none⟩ (.int .u8 10)) ba bb N K f (filled (i + 1) 10) :=
  ⟨h.below.setCell (p := ⟨bb, i, none⟩) h.hb _, h.a.setOther h.ne _, (h.b.set i _).congr fun j _ => by
    unfold filled u8
    by_cases e : j = i
    · rw [if_pos e, if_pos (by omega)]; rfl
    · rw [if_neg e]
      by_cases h : j < i
      · rw [if_pos h, if_pos (by omega)]
      · rw [if_neg h, if_neg (by omega)], h.ha, h.hb, h.ne⟩
structure Thr (w wx : World) (ba bb bs N K : Nat) (l : List UInt8) : Prop where
  two : Two w wx ba bb N K (filled N 97) (filled K 10)
  hs : w.heap.size ≤ bs
  s : wx.heap[bs]? = some (.cells (l.map fun x => Value.int .u8 x.toNat).toArray 5 (14, 15))
  na : ba ≠ bs
  nb : bb ≠ bs
theorem Two.alloc {w wx : World} {ba bb N K : Nat} {f g : Nat → Value} (h : Two w wx ba bb N K f g) (o : Obj) : Two w (wx.alloc o) ba bb N K f g :=
  ⟨h.below.alloc h.below.size _, h.a.alloc _, h.b.alloc _, h.ha, h.hb, h.ne⟩
theorem thr_made {w wx : World} {ba bb N K : Nat} (h : Two w wx ba bb N K (filled N 97) (filled K 10)) : Thr w (wx.alloc (.cells (litB.map fun x => Value.int .u8 x.toNat).toArray 5 (14, 15))) ba bb wx.heap.size N K litB :=
  ⟨h.alloc _, h.below.size, Go.Deep.blk_alloc_new _ _, Nat.ne_of_lt h.a.lt, Nat.ne_of_lt h.b.lt⟩
theorem lit_ten : ∀ {A : Nat}, A < 14 → ¬ (A = 6 ∨ A = 13) → (litB.map fun x => x.toNat).getD A 0 ≠ 10 := by decide
theorem Thr.cell {w wx : World} {ba bb bs N K : Nat} {l : List UInt8} (h : Thr w wx ba bb bs N K l) {i : Nat} (hi : i < l.length) : wx.cell? ⟨bs, i, none⟩ = some (.int .u8 ((l.map fun x => x.toNat).getD i 0 : Nat)) := by
  rw [Go.Joins.cell_of_block h.s]
  simp [List.getElem?_eq_getElem hi]
theorem Thr.froz {w wx : World} {ba bb bs N K : Nat} {l : List UInt8} (h : Thr w wx ba bb bs N K l) {i : Nat} (hi : i < 14) : wx.frozen? ⟨bs, i, none⟩ = false := by
  simp [World.frozen?, h.s]
  omega
theorem Thr.set {w wx : World} {ba bb bs N K i : Nat} {l : List UInt8} (h : Thr w wx ba bb bs N K l) (x : UInt8) : Thr w (wx.setCell ⟨bs, i, none⟩ (.int .u8 (x.toNat : Nat))) ba bb bs N K (l.set i x) := by
  refine ⟨⟨h.two.below.setCell (p := ⟨bs, i, none⟩) h.hs _, h.two.a.setOther h.na _, h.two.b.setOther h.nb _, h.two.ha, h.two.hb, h.two.ne⟩, h.hs, ?_, h.na, h.nb⟩
  rw [Go.Joins.block_setCell h.s]
  congr 2
  simp [List.map_set]
theorem Thr.keep {w wx w' : World} {ba bb bs N K : Nat} {l : List UInt8} (h : Thr w wx ba bb bs N K l) (hb : Below wx.heap.size wx w') : Thr w w' ba bb bs N K l := by
  have hlt : bs < wx.heap.size := (Array.getElem?_eq_some_iff.1 h.s).1
  exact ⟨⟨h.two.below.trans (hb.mono h.two.below.size), h.two.a.of_block (hb.block _ h.two.a.lt), h.two.b.of_block (hb.block _ h.two.b.lt), h.two.ha, h.two.hb, h.two.ne⟩, h.hs, (hb.block _ hlt).trans h.s, h.na, h.nb⟩
theorem conv_row {wx : World} {b : Nat} {l : List UInt8} {n : Nat} (hn : l.length = n) (hc : ∀ j (hj : j < l.length), wx.cell? ⟨b, j, none⟩ = some (.int .u8 (l[j].toNat : Int))) : (convert 50 9 (.slice (some ⟨b, 0, none⟩) n n)).run Tryd.prog wx = .ok (.string ⟨l.toArray⟩) wx := by
  subst hn
  exact run_convert_bytes_back wx _ _ 5 ⟨b, 0, none⟩ l.length l (by kernel_rfl) (by kernel_rfl) (by kernel_rfl) fun j hj => by
    rw [show Addr.add ⟨b, 0, none⟩ j = ⟨b, j, none⟩ by simp only [Addr.add]; split <;> simp_all]
    exact hc j hj
theorem Thr.convA {w wx : World} {ba bb bs N K : Nat} {l : List UInt8} (h : Thr w wx ba bb bs N K l) : (convert 50 9 (.slice (some ⟨ba, 0, none⟩) N N)).run Tryd.prog wx = .ok (.string ⟨(List.replicate N (97 : UInt8)).toArray⟩) wx :=
  conv_row List.length_replicate fun j hj => by
    rw [List.length_replicate] at hj
    rw [h.two.a.cell hj, List.getElem_replicate, filled, if_pos hj]
    rfl
theorem Thr.convB {w wx : World} {ba bb bs N K : Nat} {l : List UInt8} (h : Thr w wx ba bb bs N K l) : (convert 50 9 (.slice (some ⟨bb, 0, none⟩) K K)).run Tryd.prog wx = .ok (.string ⟨(List.replicate K (10 : UInt8)).toArray⟩) wx :=
  conv_row List.length_replicate fun j hj => by
    rw [List.length_replicate] at hj
    rw [h.two.b.cell hj, List.getElem_replicate, filled, if_pos hj]
    rfl
theorem Thr.convS {w wx : World} {ba bb bs N K : Nat} {l : List UInt8} (h : Thr w wx ba bb bs N K l) (hl : l.length = 14) : (convert 50 9 (.slice (some ⟨bs, 0, none⟩) 14 14)).run Tryd.prog wx = .ok (.string ⟨l.toArray⟩) wx :=
  conv_row hl fun j hj => by
    rw [h.cell hj]
    simp [List.getD, hj]
theorem good_ways (B : Nat) (x : UInt8) : (((x.toNat : Int) == 9) = true ∧ goodC B x = true) ∨ (((x.toNat : Int) == 9) = false ∧ ((x.toNat : Int) == 10) = true ∧ goodC B x = true) ∨ (((x.toNat : Int) == 9) = false ∧ ((x.toNat : Int) == 10) = false ∧ decide (32 ≤ (x.toNat : Int)) = true ∧ decide ((x.toNat : Int) ≤ 126) = true ∧ goodC B x = true) ∨ (((x.toNat : Int) == 9) = false ∧ ((x.toNat : Int) == 10) = false ∧ decide (32 ≤ (x.toNat : Int)) = false ∧ ((x.toNat : Int) == 13) = true ∧ ((B : Int) == 5) = true ∧ goodC B x = true) ∨ (((x.toNat : Int) == 9) = false ∧ ((x.toNat : Int) == 10) = false ∧ decide (32 ≤ (x.toNat : Int)) = false ∧ ((x.toNat : Int) == 13) = true ∧ ((B : Int) == 5) = false ∧ ((B : Int) == 12) = true ∧ goodC B x = true) ∨ (((x.toNat : Int) == 9) = false ∧ ((x.toNat : Int) == 10) = false ∧ decide (32 ≤ (x.toNat : Int)) = false ∧ ((x.toNat : Int) == 13) = true ∧ ((B : Int) == 5) = false ∧ ((B : Int) == 12) = false ∧ goodC B x = false) ∨ (((x.toNat : Int) == 9) = false ∧ ((x.toNat : Int) == 10) = false ∧ decide (32 ≤ (x.toNat : Int)) = false ∧ ((x.toNat : Int) == 13) = false ∧ goodC B x = false) ∨ (((x.toNat : Int) == 9) = false ∧ ((x.toNat : Int) == 10) = false ∧ decide (32 ≤ (x.toNat : Int)) = true ∧ decide ((x.toNat : Int) ≤ 126) = false ∧ ((x.toNat : Int) == 13) = false ∧ goodC B x = false) := by
  have e : ∀ k : UInt8, (x == k) = decide (x.toNat = k.toNat) := fun k => by
    rw [Bool.eq_iff_iff, beq_iff_eq, decide_eq_true_eq]
    exact UInt8.toNat_inj.symm
  have tt : ∀ {a b : Nat}, a = b → ((a : Int) == (b : Int)) = true := fun h => by rw [h]; exact beq_self_eq_true _
  have ff : ∀ {a b : Nat}, a ≠ b → ((a : Int) == (b : Int)) = false := fun h => beq_eq_false_iff_ne.2 (by omega)
  unfold goodC
  rw [e, e, e, show (9 : UInt8).toNat = 9 from rfl, show (10 : UInt8).toNat = 10 from rfl, show (13 : UInt8).toNat = 13 from rfl]
  generalize x.toNat = c
  have f : ∀ k : Nat, (B == k) = decide (B = k) := fun k => rfl
  rw [f, f]
  by_cases h9 : c = 9
  · exact .inl ⟨tt h9, by simp [h9]⟩
  by_cases h10 : c = 10
  · exact .inr (.inl ⟨ff h9, tt h10, by simp [h10]⟩)
  by_cases h32 : 32 ≤ c
  · by_cases h126 : c ≤ 126
    · exact .inr (.inr (.inl ⟨ff h9, ff h10, decide_eq_true (by omega), decide_eq_true (by omega), by simp [h32, h126]⟩))
    · exact .inr (.inr (.inr (.inr (.inr (.inr (.inr ⟨ff h9, ff h10, decide_eq_true (by omega), decide_eq_false (by omega), ff (b := 13) (by omega), by simp [h9, h10, show c ≠ 13 by omega, h126]⟩))))))
  by_cases h13 : c = 13
  · by_cases b5 : B = 5
    · exact .inr (.inr (.inr (.inl ⟨ff h9, ff h10, decide_eq_false (by omega), tt h13, tt b5, by simp [h13, b5]⟩)))
    by_cases b12 : B = 12
    · exact .inr (.inr (.inr (.inr (.inl ⟨ff h9, ff h10, decide_eq_false (by omega), tt h13, ff b5, tt b12, by simp [h13, b12]⟩))))
    · exact .inr (.inr (.inr (.inr (.inr (.inl ⟨ff h9, ff h10, decide_eq_false (by omega), tt h13, ff b5, ff b12, by simp [h13, b5, b12]⟩)))))
  · exact .inr (.inr (.inr (.inr (.inr (.inr (.inl ⟨ff h9, ff h10, decide_eq_false (by omega), ff h13, by simp [h9, h10, h13, h32]⟩))))))
theorem next_way {A : Nat} (hA : A < 14) {x : UInt8} : adj A < 13 ∧ ((x.toNat : Int) = 13 → ((litB.map fun x => x.toNat).getD (adj A + 1) 0 = 10 ↔ goodC (adj A) x = true)) ∧ ((litB.set (adj A) x).map fun x => x.toNat).getD (adj A + 1) 0 = (litB.map fun x => x.toNat).getD (adj A + 1) 0 := by
  refine ⟨by unfold adj; split <;> omega, fun h => ?_, ?_⟩
  · have hx : x = 13 := UInt8.toNat_inj.1 (by show x.toNat = 13; omega)
    subst hx
    revert A
    decide
  · simp
set_option maxRecDepth 100000 in
set_option maxHeartbeats 2000000 in
theorem bounds_calls {n k t : Int} (N K A : Nat) {x : UInt8} (hN : wrap64 (199990 + bits BinOp.and IntKind.i64 n 31) = (N : Int)) (hK : wrap64 (4990 + bits BinOp.and IntKind.i64 k 31) = (K : Int)) (hn1 : N ≤ 300000) (hk1 : K ≤ 200000) (hA : (bits BinOp.and IntKind.i64 t 255).tmod 14 = (A : Int)) (hA2 : A < 14) (w : World) : Calls Tryd.prog 7 #[.int .i64 n, .int .i64 k, .int .u8 (x.toNat : Nat), .int .i64 t] w fun e w' => e = .returned (.bool true) ∧ Below w.heap.size w w' := by
  have hu50 : Tryd.prog.underlying 50 = some (.slice 5) := by kernel_rfl
  have hu5 : Tryd.prog.underlying 5 = some (.int .u8) := by kernel_rfl
  have hu9 : Tryd.prog.underlying 9 = some .string := by kernel_rfl
  have hi5 : (Tryd.prog.info? 5).map (fun i => (i.zero, i.size, i.bytes)) = some (some (.int .u8 0), 1, 1) := by kernel_rfl
  have hmk1 := run_make_row' (P := Tryd.prog) 50 5 (.int .u8 0) 1 hu50 hi5 rfl .i64 .i64 N (by omega) (by omega)
  have hmk2 := run_make_row' (P := Tryd.prog) 50 5 (.int .u8 0) 1 hu50 hi5 rfl .i64 .i64 K (by omega) (by omega)
  go_enter Tryd.func7, Tryd.ntmps7
  go_upto_region 2 with (fail)
  rw [hN, hK]
  go_cut [9, 10] (fun s9 s10 wx => ∃ ba bb, s9 = .slice (some ⟨ba, 0, none⟩) N N ∧ s10 = .slice (some ⟨bb, 0, none⟩) K K ∧ Two w wx ba bb N K (filled 0 97) (filled 0 10))
  case first =>
    go_region
    all_goals go_wp2
    all_goals go_meet
    · exact ⟨_, _, rfl, rfl, two_made1 w N K⟩
    · exact ⟨_, _, rfl, rfl, two_made2 w N K⟩
  case rest =>
    obtain ⟨ba, bb, rfl, rfl, hT⟩ := hcut
    clear hmk1 hmk2
    go_wp2
    go_loopg [36, 11] N (fun gh s36 s11 wr => ∃ i : Nat, i ≤ N ∧ N - i ≤ gh ∧ s36 = .int .i64 i ∧ RowKit.Hid (Two w wr ba bb N K (filled i 97) (filled 0 10)))
    case atStart => exact ⟨0, Nat.zero_le _, Nat.le_refl _, rfl, Lib.hid hT⟩
    case round =>
      obtain ⟨i, hi, hg, rfl, hT⟩ := hrel
      by_cases hlt : i < N
      · have g1 : wr.cell? ⟨ba, i, none⟩ = some (filled i 97 i) := hT.out.a.cell hlt
        have g2 : wr.frozen? ⟨ba, i, none⟩ = false := hT.out.a.frozen i
        have s7 : (i : Int) < N := by omega
        go_wp2
        go_roundg (N - (i + 1))
        case measure => omega
        case rel => exact ⟨i + 1, by omega, Nat.le_refl _, by go_num, Lib.hid hT.out.setA⟩
      · obtain rfl : N = i := by omega
        have s7 : ¬ (N : Int) < N := by omega
        go_wp2
        go_loopg [45, 12] K (fun gh s45 s12 wr => ∃ i : Nat, i ≤ K ∧ K - i ≤ gh ∧ s45 = .int .i64 i ∧ RowKit.Hid (Two w wr ba bb N K (filled N 97) (filled i 10)))
        case atStart => exact ⟨0, Nat.zero_le _, Nat.le_refl _, rfl, hT⟩
        case round =>
          clear hT
          obtain ⟨i, hi, hg, rfl, hT⟩ := hrel
          by_cases hlt : i < K
          · have g1 : wr.cell? ⟨bb, i, none⟩ = some (filled i 10 i) := hT.out.b.cell hlt
            have g2 : wr.frozen? ⟨bb, i, none⟩ = false := hT.out.b.frozen i
            have s7 : (i : Int) < K := by omega
            go_wp2
            go_roundg (K - (i + 1))
            case measure => omega
            case rel => exact ⟨i + 1, by omega, Nat.le_refl _, by go_num, Lib.hid hT.out.setB⟩
          · obtain rfl : K = i := by omega
            have s7 : ¬ (K : Int) < K := by omega
            have kc := fun (w : World) (C : Array Value) (n c : Nat) => Lib.run_convert_bytes_const (P := Tryd.prog) w 50 5 C n c hu50 hu5
            go_upto_region 13 with (fail)
            go_cut [13] (fun s13 wx => ∃ bs, s13 = .slice (some ⟨bs, 0, none⟩) 14 14 ∧ RowKit.Hid (Thr w wx ba bb bs N K litB))
            case first =>
              go_wp2
              go_meet
              exact ⟨_, rfl, Lib.hid (thr_made hT.out)⟩
            case rest =>
              clear kc hT
              obtain ⟨bs, rfl, hT⟩ := hcut
              have g0 := hT.out.cell (i := A) hA2
              have s8 : (A : Int) < 14 := by omega
              obtain ⟨X, g1, hX⟩ : ∃ X : Nat, wc.cell? ⟨bs, A, none⟩ = some (.int .u8 X) ∧ RowKit.Hid ((A = 6 ∨ A = 13 → X = 10) ∧ (¬ (A = 6 ∨ A = 13) → X ≠ 10)) := ⟨_, g0, Lib.hid ⟨fun h => by rcases h with rfl | rfl <;> rfl, fun h => lit_ten hA2 h⟩⟩
              clear g0
              go_upto_if 63 with (fail)
              go_cut [3] (fun s3 wx => s3 = .int .i64 (adj A : Nat) ∧ RowKit.Hid (Thr w wx ba bb bs N K litB))
              case first =>
                by_cases h10 : A = 6 ∨ A = 13
                · have g3 : adj A = A - 1 := if_pos h10
                  have g4 : (X : Int) = 10 := by have := hX.out.1 h10; omega
                  go_wp2
                  go_meet
                  exact ⟨congrArg _ (by omega), hT⟩
                · have g3 : adj A = A := if_neg h10
                  have g4 : ¬ (X : Int) = 10 := by have := hX.out.2 h10; omega
                  go_wp2
                  go_meet
                  exact ⟨congrArg _ (by omega), hT⟩
              case rest =>
                clear hT
                obtain ⟨rfl, hT⟩ := hcut
                have hB : adj A < 14 := by unfold adj; split <;> omega
                go_upto_region 17 with (fail)
                go_cut [] (fun wx => RowKit.Hid (Thr w wx ba bb bs N K (litB.set (adj A) x)))
                case first =>
                  have g1 := hT.out.cell (i := adj A) hB
                  have g2 := hT.out.froz (i := adj A) hB
                  have s8 : ((adj A : Nat) : Int) < 14 := by omega
                  go_wp2
                  go_meet
                  exact Lib.hid (hT.out.set x)
                case rest =>
                  clear hT
                  have kc := hcut.out.convA
                  obtain ⟨SA, hSA⟩ : ∃ s : ByteArray, RowKit.Hid (s = ⟨(List.replicate N (97 : UInt8)).toArray⟩) := ⟨_, Lib.hid rfl⟩
                  obtain ⟨SB, hSB⟩ : ∃ s : ByteArray, RowKit.Hid (s = ⟨(List.replicate K (10 : UInt8)).toArray⟩) := ⟨_, Lib.hid rfl⟩
                  obtain ⟨SS, hSS⟩ : ∃ s : ByteArray, RowKit.Hid (s = ⟨(litB.set (adj A) x).toArray⟩) := ⟨_, Lib.hid rfl⟩
                  rw [← hSA.out] at kc
                  go_wp2_with (go_at_fn 10)
                  refine Calls.mono (lines_calls SA wc) ?_
                  rintro e w2 ⟨v1, rfl, h1⟩
                  have hT2 := Lib.hid (hcut.out.keep h1)
                  clear kc hcut h1
                  have kc := hT2.out.convB
                  rw [← hSB.out] at kc
                  go_wp2_with (go_at_fn 10)
                  refine Calls.mono (lines_calls SB w2) ?_
                  rintro e w3 ⟨v2, rfl, h1⟩
                  have hT3 := Lib.hid (hT2.out.keep h1)
                  clear kc hT2 h1
                  have kc := hT3.out.convS (List.length_set ..)
                  rw [← hSS.out] at kc
                  go_wp2_with (go_at_fn 10)
                  refine Calls.mono (lines_calls SS w3) ?_
                  rintro e w4 ⟨v3, rfl, h1⟩
                  have hT4 := Lib.hid (hT3.out.keep h1)
                  clear kc hT3 h1
                  obtain ⟨E1, hE1⟩ : ∃ e : Int, RowKit.Hid (e = (linesF SA).2.2) := ⟨_, Lib.hid rfl⟩
                  obtain ⟨E2, hE2⟩ : ∃ e : Int, RowKit.Hid (e = (linesF SB).2.2) := ⟨_, Lib.hid rfl⟩
                  obtain ⟨E3, hE3⟩ : ∃ e : Int, RowKit.Hid (e = (linesF SS).2.2) := ⟨_, Lib.hid rfl⟩
                  obtain ⟨I3, hI3⟩ : ∃ e : Int, RowKit.Hid (e = (linesF SS).2.1) := ⟨_, Lib.hid rfl⟩
                  rw [← hE1.out, ← hE2.out, ← hE3.out, ← hI3.out]
                  have hN2 : RowKit.Hid (E1 = if 200000 < N then 8 else 0) := Lib.hid (by rw [hE1.out, hSA.out, lines_a])
                  have hK2 : RowKit.Hid (E2 = if 5000 < K then 8 else 0) := Lib.hid (by rw [hE2.out, hSB.out, lines_b hk1])
                  have hL : RowKit.Hid (E3 = (if goodC (adj A) x then 0 else 7) ∧ (goodC (adj A) x = false → I3 = (adj A : Nat))) := Lib.hid (by rw [hE3.out, hI3.out, hSS.out]; exact lines_s hA2 x)
                  have good := Lib.hid (good_ways (adj A) x)
                  have next := Lib.hid (next_way hA2 (x := x))
                  clear hE1 hE2 hE3 hI3 hSA hSB hSS hN hK hA
                  generalize adj A = B at *
                  generalize goodC B x = G at *
                  go_upto_region 21 with (fail)
                  go_cut [23] (fun s23 wx => s23 = .bool G ∧ RowKit.Hid (Thr w wx ba bb bs N K (litB.set B x)))
                  case first =>
                    clear next hL hN2 hK2
                    rcases good.out with ⟨q1, rfl⟩ | ⟨q1, q2, rfl⟩ | ⟨q1, q2, q3, q4, rfl⟩ | ⟨q1, q2, q3, q4, q5, rfl⟩ | ⟨q1, q2, q3, q4, q5, q6, rfl⟩ | ⟨q1, q2, q3, q4, q5, q6, rfl⟩ | ⟨q1, q2, q3, q4, rfl⟩ | ⟨q1, q2, q3, q4, q5, rfl⟩
                    all_goals go_wp2
                    all_goals go_meet
                    all_goals exact ⟨rfl, hT4⟩
                  case rest =>
                    clear hT4
                    obtain ⟨rfl, hT⟩ := hcut
                    obtain ⟨nx1, nx2, nx3⟩ := next.out
                    have s8 : (B : Int) + 1 < 14 := by omega
                    have g0 := hT.out.cell (i := B + 1) (by rw [List.length_set]; show B + 1 < 14; omega)
                    rw [nx3] at g0
                    obtain ⟨Y, g1, hY⟩ : ∃ Y : Nat, wc.cell? ⟨bs, B + 1, none⟩ = some (.int .u8 Y) ∧ RowKit.Hid ((x.toNat : Int) = 13 → (Y = 10 ↔ G = true)) := ⟨_, g0, Lib.hid nx2⟩
                    clear g0 nx1 nx2 nx3 next
                    go_upto_region 22 with (fail)
                    go_cut [133] (fun s133 wx => ∃ b : Bool, s133 = .bool b ∧ RowKit.Hid ((b = true → G = true) ∧ Thr w wx ba bb bs N K (litB.set B x)))
                    case first =>
                      clear hL hN2 hK2
                      by_cases h13 : (x.toNat : Int) = 13
                      · by_cases h10 : Y = 10
                        · have q1 : ((Y : Int) == 10) = true := by rw [h10]; rfl
                          have q2 : ((x.toNat : Int) == 13) = true := by rw [h13]; rfl
                          have q3 := Lib.hid ((hY.out h13).1 h10)
                          clear h13 h10 hY
                          go_wp2
                          go_meet
                          exact ⟨_, rfl, Lib.hid ⟨fun _ => q3.out, hT.out⟩⟩
                        · have q1 : ((Y : Int) == 10) = false := beq_eq_false_iff_ne.2 (by omega)
                          clear h13 h10 hY
                          go_wp2
                          go_meet
                          exact ⟨_, rfl, Lib.hid ⟨fun e => (by cases e), hT.out⟩⟩
                      · have q2 : ((x.toNat : Int) == 13) = false := beq_eq_false_iff_ne.2 h13
                        clear h13 hY
                        by_cases h10 : Y = 10
                        · have q1 : ((Y : Int) == 10) = true := by rw [h10]; rfl
                          clear h10
                          go_wp2
                          go_meet
                          exact ⟨_, rfl, Lib.hid ⟨fun e => (by cases e), hT.out⟩⟩
                        · have q1 : ((Y : Int) == 10) = false := beq_eq_false_iff_ne.2 (by omega)
                          clear h10
                          go_wp2
                          go_meet
                          exact ⟨_, rfl, Lib.hid ⟨fun e => (by cases e), hT.out⟩⟩
                    case rest =>
                      clear hT g1 hY
                      obtain ⟨b, rfl, hT⟩ := hcut
                      go_upto_if 133 with (fail)
                      go_cut [23] (fun s23 wx => s23 = .bool G ∧ RowKit.Hid (Below w.heap.size w wx))
                      case first =>
                        cases b with
                        | true =>
                          go_wp2
                          go_meet
                          exact ⟨congrArg _ (hT.out.1 (by trivial)).symm, Lib.hid hT.out.2.two.below⟩
                        | false =>
                          go_wp2
                          go_meet
                          exact ⟨rfl, Lib.hid hT.out.2.two.below⟩
                      case rest =>
                        clear hT
                        obtain ⟨rfl, hT⟩ := hcut
                        obtain ⟨P, hP, hP2⟩ : ∃ P : Bool, decide ((200000 : Int) < (N : Int)) = P ∧ RowKit.Hid (E1 = cond P 8 0) := ⟨_, rfl, Lib.hid (by
                          rw [hN2.out]
                          by_cases h : 200000 < N
                          · rw [if_pos h, decide_eq_true (by omega)]
                            rfl
                          · rw [if_neg h, decide_eq_false (by omega)]
                            rfl)⟩
                        obtain ⟨R, hR, hR2⟩ : ∃ R : Bool, decide ((5000 : Int) < (K : Int)) = R ∧ RowKit.Hid (E2 = cond R 8 0) := ⟨_, rfl, Lib.hid (by
                          rw [hK2.out]
                          by_cases h : 5000 < K
                          · rw [if_pos h, decide_eq_true (by omega)]
                            rfl
                          · rw [if_neg h, decide_eq_false (by omega)]
                            rfl)⟩
                        obtain ⟨Z, hZ, hI⟩ : ∃ Z : Bool, Z = G ∧ RowKit.Hid (E3 = cond Z 0 7 ∧ (Z = false → I3 = (B : Nat))) := ⟨G, rfl, Lib.hid ⟨by rw [hL.out.1]; cases G <;> rfl, hL.out.2⟩⟩
                        subst hZ
                        clear hN2 hK2 hL good
                        cases P <;> cases R <;> cases Z
                        all_goals first | obtain rfl : E1 = 8 := hP2.out | obtain rfl : E1 = 0 := hP2.out
                        all_goals first | obtain rfl : E2 = 8 := hR2.out | obtain rfl : E2 = 0 := hR2.out
                        all_goals first | obtain rfl : E3 = 7 := hI.out.1 | obtain rfl : E3 = 0 := hI.out.1
                        all_goals first | obtain rfl : I3 = (B : Nat) := hI.out.2 rfl | skip
                        all_goals clear hP2 hR2 hI
                        all_goals go_wp2_with (go_at_fn 11)
                        all_goals refine Calls.mono (awake_calls _) ?_
                        all_goals rintro e w5 ⟨rfl, h1⟩
                        all_goals go_wp2
                        all_goals go_ret
                        all_goals exact ⟨rfl, hT.out.trans (h1.mono hT.out.size)⟩
end Go.Proofs.YtjfpmgdbkhooeaaDoor.Ab
