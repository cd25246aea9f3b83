/-
  Calls that are known ahead, of any closed data.
-/
import Derived.Test.YtjkclhcbjjnlaaaGreatDoorRp
namespace Go.Proofs.YtjkclhcbjjnlaaaGreatDoor.Ab
open Go.RowKit
def eqV : Value → Value → Bool
  | .string a, .string b => decide (a = b)
  | .int k a, .int l b => decide (k = l) && decide (a = b)
  | .bool a, .bool b => decide (a = b)
  | _, _ => false
theorem eqV_ok : ∀ {a b : Value}, eqV a b = true → a = b := by
  intro a b h
  unfold eqV at h
  split at h
  · rw [of_decide_eq_true h]
  · rw [Bool.and_eq_true] at h
    rw [of_decide_eq_true h.1, of_decide_eq_true h.2]
  · rw [of_decide_eq_true h]
  · cases h
mutual
def eqD : D → D → Bool
  | .v x, .v y => eqV x y
  | .sl a, .sl b => eqDss a b
  | .ag a, .ag b => eqDs a b
  | .tu a, .tu b => eqDs a b
  | _, _ => false
def eqDs : List D → List D → Bool
  | [], [] => true
  | x :: a, y :: b => match eqD x y with
    | true => eqDs a b
    | false => false
  | _, _ => false
def eqDss : List (List D) → List (List D) → Bool
  | [], [] => true
  | x :: a, y :: b => match eqDs x y with
    | true => eqDss a b
    | false => false
  | _, _ => false
end
mutual
theorem eqD_ok : ∀ {a b : D}, eqD a b = true → a = b
  | .v x, .v y, h => congrArg _ (eqV_ok (by rw [eqD] at h; exact h))
  | .sl a, .sl b, h => congrArg _ (eqDss_ok (by rw [eqD] at h; exact h))
  | .ag a, .ag b, h => congrArg _ (eqDs_ok (by rw [eqD] at h; exact h))
  | .tu a, .tu b, h => congrArg _ (eqDs_ok (by rw [eqD] at h; exact h))
  | .v _, .sl _, h | .v _, .ag _, h | .v _, .tu _, h | .v _, .pt _ _, h | .v _, .mp _, h | .sl _, .v _, h | .sl _, .ag _, h | .sl _, .tu _, h | .sl _, .pt _ _, h | .sl _, .mp _, h | .ag _, .v _, h | .ag _, .sl _, h | .ag _, .tu _, h | .ag _, .pt _ _, h | .ag _, .mp _, h | .tu _, .v _, h | .tu _, .sl _, h | .tu _, .ag _, h | .tu _, .pt _ _, h | .tu _, .mp _, h | .pt _ _, _, h | .mp _, _, h => by
    simp [eqD] at h
theorem eqDs_ok : ∀ {a b : List D}, eqDs a b = true → a = b
  | [], [], _ => rfl
  | x :: a, y :: b, h => by
    rw [eqDs] at h
    split at h
    · rename_i h1
      rw [eqD_ok h1, eqDs_ok h]
    · cases h
  | [], _ :: _, h | _ :: _, [], h => by simp [eqDs] at h
theorem eqDss_ok : ∀ {a b : List (List D)}, eqDss a b = true → a = b
  | [], [], _ => rfl
  | x :: a, y :: b, h => by
    rw [eqDss] at h
    split at h
    · rename_i h1
      rw [eqDs_ok h1, eqDss_ok h]
    · cases h
  | [], _ :: _, h | _ :: _, [], h => by simp [eqDss] at h
end
/-- What a function of closed data is known to say of them. -/
def prX (f : FuncId) (ds : List D) (d : D) : Pr1 := (f, fun vs => match toDl noHp vs with
  | some (es, _, _) => match eqDs es ds with
    | true => some (lift false d)
    | false => none
  | none => none)
theorem prX_ok {P : Program} {f : FuncId} {ds : List D} {d : D} (h : PureOK P f ds d true) : Pr1OK P (prX f ds d) := by
  intro vs w hw hp nx
  simp only [prX] at hw
  split at hw
  · rename_i es b is e1
    split at hw
    · rename_i e2
      obtain rfl := eqDs_ok e2
      cases hw
      exact (inl_of_pure (toDl_sup (hp' := hp) (fun i o e => by cases e) e1) h (.inr rfl)).mono fun v hp nx h => h
    · cases hw
  · cases hw
end Go.Proofs.YtjkclhcbjjnlaaaGreatDoor.Ab
