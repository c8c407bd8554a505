/- Lists that are filled place by place, copied, compared: for the pure statements of this seat. No condition. -/
import Derived.Test.YtchpgjhbmeokaaaDoorVLem
namespace Go.Proofs.YtchpgjhbmeokaaaDoor.Gen
open Go.RowKit Go.Proofs.YtchpgjhbmeokaaaDoor.Lem Go.Proofs.YtchpgjhbmeokaaaDoorW.PrintWords Go.Proofs.YtchpgjhbmeokaaaDoorW.PrintLast Go.Proofs.YtchpgjhbmeokaaaDoorW.PrintMore
variable {α β : Type}
def tabG (g : Nat → β) (n : Nat) : List β := (List.range n).map g
theorem tabG_length (g : Nat → β) (n : Nat) : (tabG g n).length = n := by simp [tabG]
theorem tabG_succ (g : Nat → β) (n : Nat) : tabG g (n + 1) = tabG g n ++ [g n] := by simp [tabG, List.range_succ]
theorem tabG_zero (g : Nat → β) : tabG g 0 = [] := rfl
def fillG (z : β) (g : Nat → β) (n i : Nat) : List β := tabG g i ++ List.replicate (n - i) z
theorem fillG_length (z : β) (g : Nat → β) (n i : Nat) (h : i ≤ n) : (fillG z g n i).length = n := by simp [fillG, tabG_length]; omega
theorem fillG_zero (z : β) (g : Nat → β) (n : Nat) : fillG z g n 0 = List.replicate n z := by simp [fillG, tabG_zero]
theorem fillG_all (z : β) (g : Nat → β) (n : Nat) : fillG z g n n = tabG g n := by simp [fillG]
theorem fillG_set (z : β) (g : Nat → β) (n i : Nat) (h : i < n) : (fillG z g n i).set i (g i) = fillG z g n (i + 1) := by
  unfold fillG
  rw [List.set_append_right _ _ (by rw [tabG_length]; exact Nat.le_refl _), tabG_length, Nat.sub_self]
  obtain ⟨m, hm⟩ : ∃ m, n - i = m + 1 := ⟨n - i - 1, by omega⟩
  have hm' : n - (i + 1) = m := by omega
  rw [hm, hm', tabG_succ, List.replicate_succ]
  simp
theorem tabG_map (l : List α) (z : α) (f : α → β) : tabG (fun j => f (l.getD ((j : Int)).toNat z)) l.length = l.map f := by
  apply List.ext_getElem
  · simp [tabG]
  · intro i h1 h2
    have hi : i < l.length := by simpa using h2
    simp [tabG, List.getD_eq_getElem?_getD, hi]
theorem tabG_id (l : List α) (z : α) : tabG (fun j => l.getD ((j : Int)).toNat z) l.length = l := by
  have h := tabG_map l z (fun x => x)
  simpa using h
theorem getD_map (l : List α) (f : α → β) (i : Nat) (z : α) (hi : i < l.length) (zb : β) : (l.map f).getD i zb = f (l.getD i z) := by
  simp [List.getD_eq_getElem?_getD, hi]
theorem getD_mem (l : List α) (i : Nat) (z : α) (hi : i < l.length) : l.getD i z ∈ l := by
  simp [List.getD_eq_getElem?_getD, hi]
end Go.Proofs.YtchpgjhbmeokaaaDoor.Gen
