/- The first place of a list at which a predicate holds: for the contracts of the library's IndexFunc and ContainsFunc. No condition. -/
import Derived.Test.YtchpgjhbmeokaaaDoorVMore
namespace Go.Proofs.YtchpgjhbmeokaaaDoor.Hand
variable {α : Type}
/-- The first place at which p holds; -1 if there is none. -/
def idxF (p : α → Bool) : List α → Int
  | [] => -1
  | x :: l => if p x then 0 else (if idxF p l < 0 then -1 else idxF p l + 1)
theorem idxF_hit (p : α → Bool) (z : α) : ∀ (l : List α) (k : Nat), k < l.length → p (l.getD k z) = true → (∀ j, j < k → p (l.getD j z) = false) → idxF p l = k := by
  intro l
  induction l with
  | nil => intro k hk; simp at hk
  | cons x l ih =>
    intro k hk hp hj
    cases k with
    | zero => simp [idxF, show p x = true from hp]
    | succ k =>
      have h0 : p x = false := hj 0 (by omega)
      have e := ih k (by simpa using hk) hp (fun j hjk => hj (j + 1) (by omega))
      simp [idxF, h0, e]
      omega
theorem idxF_miss (p : α → Bool) (z : α) : ∀ (l : List α), (∀ j, j < l.length → p (l.getD j z) = false) → idxF p l = -1 := by
  intro l
  induction l with
  | nil => intro _; rfl
  | cons x l ih =>
    intro hj
    have h0 : p x = false := hj 0 (by simp)
    have e := ih (fun j hjk => hj (j + 1) (by simpa using hjk))
    simp [idxF, h0, e]
theorem idxF_any (p : α → Bool) (l : List α) : decide (0 ≤ idxF p l) = l.any p := by
  induction l with
  | nil => rfl
  | cons x l ih =>
    cases h : p x
    · simp only [idxF, h, List.any_cons, Bool.false_or, Bool.false_eq_true, if_false]
      rw [← ih]
      by_cases c : idxF p l < 0
      · rw [if_pos c, decide_eq_false (by omega), decide_eq_false (by omega)]
      · rw [if_neg c, decide_eq_true (by omega), decide_eq_true (by omega)]
    · simp [idxF, h]
def inB (x lo hi : Int) : Bool := decide (lo ≤ x) && decide (x ≤ hi)
end Go.Proofs.YtchpgjhbmeokaaaDoor.Hand
