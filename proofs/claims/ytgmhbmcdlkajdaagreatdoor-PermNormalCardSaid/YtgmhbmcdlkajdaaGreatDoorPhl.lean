/-
 Who may what, by entries: what the functions answer. No program in sight.
-/
import Derived.Test.YtgmhbmcdlkajdaaGreatDoorPy
import Derived.Test.YtgmhbmcdlkajdaaGreatDoorLtx
namespace Go.Proofs.YtgmhbmcdlkajdaaGreatDoor.Ab
open Go.RowKit
/-! ### entries -/
def keyE (d : Bool) (k : Int) (nm : ByteArray) (x : GEntry) : Bool := (x.default == d) && ((x.kind == k) && decide (x.name = nm))
def zE : GEntry := ⟨0, false, ByteArray.empty, 0⟩
def findE (l : List GEntry) (d : Bool) (k : Int) (nm : ByteArray) : GEntry × Bool := match l.find? (keyE d k nm) with
 | some x => (x, true)
 | none => (zE, false)
theorem find_fold (n : Nat) (l0 : List GEntry) (d : Bool) (k : Int) (nm : ByteArray) : ∀ l : List GEntry, foldK (mask_Find_L1_f n l0 d k nm) (mask_Find_L1_e n l0 d k nm) l () = some (match l.find? (keyE d k nm) with | some x => .inr (x, true) | none => .inl ())
 | [] => rfl
 | x :: l => by
  have ih := find_fold n l0 d k nm l
  rw [foldK]
  show (if (x.default == d) then (if (x.kind == k) then (if (x.name.toList == nm.toList) then some (.inr (x, true)) else foldK (mask_Find_L1_f n l0 d k nm) (mask_Find_L1_e n l0 d k nm) l ()) else foldK (mask_Find_L1_f n l0 d k nm) (mask_Find_L1_e n l0 d k nm) l ()) else foldK (mask_Find_L1_f n l0 d k nm) (mask_Find_L1_e n l0 d k nm) l ()) = _
  rw [beqS, ih, List.find?_cons]
  unfold keyE
  cases (x.default == d) <;> cases (x.kind == k) <;> cases decide (x.name = nm) <;> rfl
theorem find_some {n : Nat} {l : List GEntry} {d : Bool} {k : Int} {nm : ByteArray} (h : l.length < n) (hx : l.length < 4611686018427387904) : mask_Find n l d k nm = some (findE l d k nm) := by
 unfold mask_Find findE
 have hL : mask_Find_L1 n l d k nm n 0 = _ := mask_Find_L1_list n l d k nm hx n () 0 (by omega) (by omega)
 rw [hL, List.drop_zero, find_fold, Zo]
 cases l.find? (keyE d k nm) <;> rfl
/-! ### files -/
theorem isUser_some {n : Nat} {l : List GFile} {u : ByteArray} (hn : l.length < n) (hl : l.length < 4611686018427387904) : perm_isUser n l u = some (l.any fun f => (f.kind == 1) && decide (f.name = u)) := by
 obtain ⟨r, e, h⟩ := ixf_loop (L := slices_IndexFunc_File__perm_isUser_c1_L1 n l u) (xs := l) (P := fun f => perm_isUser_c1 n f u) (fun f => (f.kind == 1) && decide (f.name = u)) (fun _ _ => rfl) (fun f _ => by
  unfold perm_isUser_c1
  rw [beqS]
  cases (f.kind == 1) <;> rfl) hl n 0 (by omega) (by omega)
 have e : slices_IndexFunc_File__perm_isUser_c1_L1 n l u n 0 = some r := e
 rw [List.drop_zero] at h
 unfold perm_isUser slices_ContainsFunc_File__perm_isUser_c1 slices_IndexFunc_File__perm_isUser_c1
 rw [e, Zo]
 rcases h with ⟨h1, k, rfl⟩ | ⟨h1, rfl⟩
 ·rw [h1]
  simp
 ·rw [h1]
  simp
theorem has_some {n : Nat} {l : List ByteArray} {u : ByteArray} (hn : l.length < n) (hl : l.length < 4611686018427387904) : slices_Contains_string n l u = some (l.any fun x => decide (u = x)) := by
 obtain ⟨r, e, h⟩ := ixf_loop (L := slices_Index_string_L1 n l u) (xs := l) (P := fun x => some (u.toList == x.toList)) (fun x => decide (u = x)) (fun _ _ => rfl) (fun x _ => by rw [beqS]) hl n 0 (by omega) (by omega)
 have e : slices_Index_string_L1 n l u n 0 = some r := e
 rw [List.drop_zero] at h
 unfold slices_Contains_string slices_Index_string
 rw [e, Zo]
 rcases h with ⟨h1, k, rfl⟩ | ⟨h1, rfl⟩
 ·rw [h1]
  simp
 ·rw [h1]
  simp
def inG (u g : ByteArray) (f : GFile) : Bool := (f.kind == 2) && (decide (f.name = g) && f.users.any fun x => decide (u = x))
theorem in_some {n : Nat} {l : List GFile} {u g : ByteArray} (hn : l.length < n) (hl : l.length < 4611686018427387904) (hu : ∀ f ∈ l, f.users.length < n ∧ f.users.length < 4611686018427387904) : perm_in n l u g = some (l.any (inG u g)) := by
 obtain ⟨r, e, h⟩ := ixf_loop (L := slices_IndexFunc_File__perm_in_c1_L1 n l g u) (xs := l) (P := fun f => perm_in_c1 n f g u) (inG u g) (fun _ _ => rfl) (fun f hf => by
  unfold perm_in_c1 inG
  rw [beqS, has_some (hu f hf).1 (hu f hf).2]
  cases (f.kind == 2) <;> cases decide (f.name = g) <;> rfl) hl n 0 (by omega) (by omega)
 have e : slices_IndexFunc_File__perm_in_c1_L1 n l g u n 0 = some r := e
 rw [List.drop_zero] at h
 unfold perm_in slices_ContainsFunc_File__perm_in_c1 slices_IndexFunc_File__perm_in_c1
 rw [e, Zo]
 rcases h with ⟨h1, k, rfl⟩ | ⟨h1, rfl⟩
 ·rw [h1]
  simp
 ·rw [h1]
  simp
def bitOn (x b : Int) : Bool := decide (0 < (IntKind.i64.wrap (an x b : Int)))
theorem any_some {n : Nat} {l : List GEntry} {b : Int} (hn : l.length < n) (hl : l.length < 4611686018427387904) : slices_ContainsFunc_Entry__perm_Can_c2 n l b = some (l.any fun x => bitOn x.bits b) := by
 obtain ⟨r, e, h⟩ := ixf_loop (L := slices_IndexFunc_Entry__perm_Can_c2_L1 n l b) (xs := l) (P := fun x => perm_Can_c2 n x b) (fun x => bitOn x.bits b) (fun _ _ => rfl) (fun x _ => rfl) hl n 0 (by omega) (by omega)
 have e : slices_IndexFunc_Entry__perm_Can_c2_L1 n l b n 0 = some r := e
 rw [List.drop_zero] at h
 unfold slices_ContainsFunc_Entry__perm_Can_c2 slices_IndexFunc_Entry__perm_Can_c2
 rw [e, Zo]
 rcases h with ⟨h1, k, rfl⟩ | ⟨h1, rfl⟩
 ·rw [h1]
  simp
 ·rw [h1]
  simp
def grpE (l : List GFile) (u : ByteArray) (f : GFile) (x : GEntry) : Bool := !x.default && (((x.kind == 3) && l.any (inG u f.group)) || ((x.kind == 4) && l.any (inG u x.name)))
theorem groups_step {n : Nat} {l : List GFile} (u : ByteArray) (f : GFile) (hn : l.length < n) (hl : l.length < 4611686018427387904) (hu : ∀ f ∈ l, f.users.length < n ∧ f.users.length < 4611686018427387904) (a0 : List GEntry) (x : GEntry) (out : List GEntry) (h : out.length + 1 ≤ 4294967296) (k) :
  perm_groups_L1_f n l u f a0 out x k = k (if grpE l u f x then out ++ [x] else out) := by
 obtain ⟨kd, d, nm, b⟩ := x
 have hp : app out [(⟨kd, false, nm, b⟩ : GEntry)] = some (out ++ [⟨kd, false, nm, b⟩]) := appS (by simpa using h)
 have g1 := in_some (g := f.group) (u := u) hn hl hu
 have g2 := in_some (g := nm) (u := u) hn hl hu
 unfold perm_groups_L1_f grpE
 dsimp only
 rw [g1, g2, hp]
 generalize l.any (inG u f.group) = A
 generalize l.any (inG u nm) = B
 generalize (kd == 3) = c3
 generalize (kd == 4) = c4
 cases d <;> cases c3 <;> cases c4 <;> cases A <;> cases B <;> rfl
theorem groups_fold {n : Nat} {l : List GFile} (u : ByteArray) (f : GFile) (hn : l.length < n) (hl : l.length < 4611686018427387904) (hu : ∀ f ∈ l, f.users.length < n ∧ f.users.length < 4611686018427387904) (a0 : List GEntry) : ∀ (a out : List GEntry), out.length + a.length ≤ 4294967296 →
  foldK (perm_groups_L1_f n l u f a0) (perm_groups_L1_e n l u f a0) a out = some (out ++ a.filter (grpE l u f))
 | [], out, _ => by simp [foldK, perm_groups_L1_e]
 | x :: a, out, h => by
  rw [List.length_cons] at h
  rw [foldK, groups_step u f hn hl hu a0 x out (by omega), List.filter_cons]
  cases grpE l u f x
  ·exact groups_fold u f hn hl hu a0 a out (by omega)
  ·refine (groups_fold u f hn hl hu a0 a (out ++ [x]) (by simp; omega)).trans ?_
   simp
theorem groups_some {n : Nat} {l : List GFile} (u : ByteArray) (f : GFile) (hn : l.length < n) (hl : l.length < 4611686018427387904) (hu : ∀ f ∈ l, f.users.length < n ∧ f.users.length < 4611686018427387904) {a : List GEntry} (ha : a.length < n) (ha2 : a.length ≤ 4294967296) : perm_groups n l u f a = some (a.filter (grpE l u f)) := by
 unfold perm_groups
 have hL : perm_groups_L1 n l u f a n ([], 0) = _ := perm_groups_L1_list n l u f a (by omega) n [] 0 (by omega) (by omega)
 rw [hL, List.drop_zero, groups_fold u f hn hl hu a a [] (by simpa using ha2)]
 rfl
theorem c1_some {n : Nat} {l : List GEntry} {k b : Int} {nm : ByteArray} (h : l.length < n) (hx : l.length < 4611686018427387904) : perm_Can_c1 n k nm l b = some (bitOn (findE l false k nm).1.bits b) := by
 unfold perm_Can_c1
 rw [find_some h hx]
 rfl
/-! ### entries as they should be -/
theorem whole_some {n : Nat} {l : List GEntry} {d : Bool} (h : l.length < n) (hn : 3 < n) (hx : l.length < 4611686018427387904) (h1 : (findE l d 1 { data := #[] }).2 = true) (h3 : (findE l d 3 { data := #[] }).2 = true) (h6 : (findE l d 6 { data := #[] }).2 = true) : mask_whole n l d = some true := by
 obtain ⟨m, rfl⟩ : ∃ m, n = m + 1 + 1 + 1 + 1 := ⟨n - 4, by omega⟩
 have e : mask_whole_L1 (m + 1 + 1 + 1 + 1) l d (m + 1 + 1 + 1 + 1) 0 = some (.inl ()) := by
  rw [mask_whole_L1, show decide ((0 : Int) < 3) = true from rfl, if_pos rfl, show idx [(1 : Int), 3, 6] 0 = some 1 from rfl, Zo, find_some h hx, Zo, h1, if_pos rfl,
   mask_whole_L1, show decide (IntKind.i64.wrap (0 + 1) < 3) = true from rfl, if_pos rfl, show idx [(1 : Int), 3, 6] (IntKind.i64.wrap (0 + 1)) = some 3 from rfl, Zo, find_some h hx, Zo, h3, if_pos rfl,
   mask_whole_L1, show decide (IntKind.i64.wrap (IntKind.i64.wrap (0 + 1) + 1) < 3) = true from rfl, if_pos rfl, show idx [(1 : Int), 3, 6] (IntKind.i64.wrap (IntKind.i64.wrap (0 + 1) + 1)) = some 6 from rfl, Zo, find_some h hx, Zo, h6, if_pos rfl, mask_whole_L1]
  rfl
 unfold mask_whole
 rw [e]
 rfl
end Go.Proofs.YtgmhbmcdlkajdaaGreatDoor.Ab
