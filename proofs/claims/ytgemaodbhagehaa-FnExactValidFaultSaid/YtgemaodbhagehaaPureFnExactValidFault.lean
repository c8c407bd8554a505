/- The pure statement of FnExactValidFault holds: the program's ValidFault and the reference's answer the same for all geometries and faults. No condition. -/
import Derived.Test.YtgemaodbhagehaaQFnExactValidFaultx2
import Derived.Test.YtgemaodbhagehaaLem
namespace Go.Proofs.Ytgemaodbhagehaa.Pure
open Go.RowKit Go.Proofs.Ytgemaodbhagehaa.QFnExactValidFault Go.Proofs.YtgemaodbhagehaaW.PrintWords Go.Proofs.YtgemaodbhagehaaW.PrintLast

open Go.Proofs.Ytgemaodbhagehaa.Lem
def inB (x lo hi : Int) : Bool := decide (lo ≤ x) && decide (x ≤ hi)
theorem inB_true {x lo hi : Int} (h : inB x lo hi = true) : lo ≤ x ∧ x ≤ hi := by simpa [inB] using h
theorem win (x lo hi : Int) : impl_within.f x lo hi = some (inB x lo hi) := by
  unfold impl_within.f inB
  by_cases h : x ≥ lo
  · rw [if_pos h]
    have h2 : lo ≤ x := h
    simp [h2]
  · rw [if_neg h]
    have h2 : ¬ lo ≤ x := h
    simp [h2]
theorem sin (x lo hi : Int) : spec_l00In.f x lo hi = some (inB x lo hi) := win x lo hi
def geoB (a b c : Int) : Bool := inB a 2 3 && (inB b 4 12 && (c == 8 || c == 16))
theorem geo_impl (a b c : Int) : impl_ValidGeometry.f a b c = some (geoB a b c) := by
  unfold impl_ValidGeometry.f geoB
  rw [win]
  simp only [Option.bind_some]
  cases inB a 2 3
  · simp
  · rw [if_pos rfl, win]
    simp only [Option.bind_some]
    cases inB b 4 12
    · simp
    · rw [if_pos rfl]
      by_cases h : c = 8 <;> simp [h]
theorem geo_spec (a b c : Int) : spec_ValidGeometry.f a b c = some (geoB a b c) := by
  unfold spec_ValidGeometry.f geoB
  rw [sin]
  simp only [Option.bind_some]
  cases inB a 2 3
  · simp
  · rw [if_pos rfl, sin]
    simp only [Option.bind_some]
    cases inB b 4 12
    · simp
    · rw [if_pos rfl]
      by_cases h : c = 8 <;> simp [h]
theorem geo_bounds {a b c : Int} (h : geoB a b c = true) : 2 ≤ a ∧ a ≤ 3 ∧ 4 ≤ b ∧ b ≤ 12 ∧ (c = 8 ∨ c = 16) := by
  unfold geoB at h
  simp only [Bool.and_eq_true, Bool.or_eq_true, beq_iff_eq] at h
  have h1 := inB_true h.1
  have h2 := inB_true h.2.1
  exact ⟨h1.1, h1.2, h2.1, h2.2, h.2.2⟩
def faultB (a b c x0 x1 x2 x3 : Int) : Bool :=
  let block := inB x1 0 (a * b - 1)
  let page := inB x2 0 (c - 1)
  let bit := inB x3 0 727
  if x0 = 1 ∨ x0 = 2 then block && (page && bit) else if x0 = 3 then block && (x2 == 0 && bit) else if x0 = 4 then block && (x2 == 0 && x3 == 0) else
  if x0 = 5 then x1 == 0 && (inB x2 0 1000000 && inB x3 0 91) else false
theorem fault_spec (k : Nat) (a b c x0 x1 x2 x3 : Int) : spec_ValidFault.f (k + 1) a b c x0 x1 x2 x3 = some (geoB a b c && faultB a b c x0 x1 x2 x3) := by
  unfold spec_ValidFault.f
  rw [geo_spec]
  simp only [Option.bind_some]
  cases hg : geoB a b c
  · simp
  · obtain ⟨g1, g2, g3, g4, g5⟩ := geo_bounds hg
    have m0 : 0 ≤ a * b := Int.mul_nonneg (by omega) (by omega)
    have m1 : a * b ≤ 3 * 12 := Int.mul_le_mul g2 g4 (by omega) (by decide)
    rw [if_pos rfl, w64 (n := a * b) (by omega) (by omega), w64 (by omega) (by omega), w64 (by omega) (by omega), sin, sin, sin]
    simp only [Option.bind_some, Bool.true_and]
    unfold faultB
    simp only
    by_cases h1 : x0 = 1
    · subst h1
      rw [if_pos rfl, spec_ValidFault.j0, if_pos (by decide), if_pos (Or.inl rfl)]
      cases inB x1 0 (a * b - 1) <;> cases inB x2 0 (c - 1) <;> rfl
    · by_cases h2 : x0 = 2
      · subst h2
        rw [if_neg h1, spec_ValidFault.j0, if_pos (by decide), if_pos (Or.inr rfl)]
        cases inB x1 0 (a * b - 1) <;> cases inB x2 0 (c - 1) <;> rfl
      · have e2 : (x0 == 2) = false := by simpa using h2
        rw [if_neg h1, spec_ValidFault.j0, e2, if_neg (by simp), if_neg (show ¬ (x0 = 1 ∨ x0 = 2) by omega)]
        by_cases h3 : x0 = 3
        · rw [if_pos h3, if_pos h3]
          cases inB x1 0 (a * b - 1) <;> cases inB x3 0 727 <;> simp
        · rw [if_neg h3, if_neg h3]
          by_cases h4 : x0 = 4
          · rw [if_pos h4, if_pos h4]
            by_cases z : x2 = 0 <;> cases inB x1 0 (a * b - 1) <;> simp [z]
          · rw [if_neg h4, if_neg h4]
            by_cases h5 : x0 = 5
            · rw [if_pos h5, if_pos h5]
              by_cases z : x1 = 0
              · rw [if_pos z, sin]
                simp only [Option.bind_some]
                cases inB x2 0 1000000
                · simp
                · rw [if_pos rfl, sin]
                  simp [z]
              · simp [z]
            · rw [if_neg h5, if_neg h5]
theorem fault_impl (k : Nat) (a b c x0 x1 x2 x3 : Int) (hg : geoB a b c = true) : impl_faultOk.f (k + 1) a b c x0 x1 x2 x3 = some (faultB a b c x0 x1 x2 x3) := by
  unfold impl_faultOk.f impl_Geometry_all.f
  obtain ⟨g1, g2, g3, g4, g5⟩ := geo_bounds hg
  have m0 : 0 ≤ a * b := Int.mul_nonneg (by omega) (by omega)
  have m1 : a * b ≤ 3 * 12 := Int.mul_le_mul g2 g4 (by omega) (by decide)
  simp only [Option.bind_some]
  rw [w64 (n := a * b) (by omega) (by omega), w64 (by omega) (by omega), w64 (by omega) (by omega), win, win, win]
  simp only [Option.bind_some]
  unfold faultB
  simp only
  by_cases h1 : x0 = 1
  · subst h1
    rw [if_pos rfl, impl_faultOk.j0, if_pos (by decide), if_pos (Or.inl rfl)]
    cases inB x1 0 (a * b - 1) <;> cases inB x2 0 (c - 1) <;> rfl
  · by_cases h2 : x0 = 2
    · subst h2
      rw [if_neg h1, impl_faultOk.j0, if_pos (by decide), if_pos (Or.inr rfl)]
      cases inB x1 0 (a * b - 1) <;> cases inB x2 0 (c - 1) <;> rfl
    · have e2 : (x0 == 2) = false := by simpa using h2
      rw [if_neg h1, impl_faultOk.j0, e2, if_neg (by simp), if_neg (show ¬ (x0 = 1 ∨ x0 = 2) by omega)]
      by_cases h3 : x0 = 3
      · rw [if_pos h3, if_pos h3]
        by_cases z : x2 = 0 <;> cases inB x1 0 (a * b - 1) <;> simp [z]
      · rw [if_neg h3, if_neg h3]
        by_cases h4 : x0 = 4
        · rw [if_pos h4, if_pos h4]
          by_cases z : x2 = 0 <;> cases inB x1 0 (a * b - 1) <;> simp [z]
        · rw [if_neg h4, if_neg h4]
          by_cases h5 : x0 = 5
          · rw [if_pos h5, if_pos h5]
            by_cases z : x1 = 0
            · rw [if_pos z, win]
              simp only [Option.bind_some]
              cases inB x2 0 1000000
              · simp
              · rw [if_pos rfl, win]
                simp [z]
            · simp [z]
          · rw [if_neg h5, if_neg h5]
theorem FnExactValidFault : laws_FnExactValidFault.Pure := by
  intro a b c x0 x1 x2 x3 h0 h1 h2 h3 h4 h5 h6
  refine ⟨1, ?_⟩
  unfold laws_FnExactValidFault.f laws_toGeometry.f laws_toFault.f
  simp only [Option.bind_some]
  have e1 : spec_ValidFault.f 1 a b c x0 x1 x2 x3 = _ := fault_spec 0 a b c x0 x1 x2 x3
  have e2 : impl_ValidFault.f 1 a b c x0 x1 x2 x3 = some (geoB a b c && faultB a b c x0 x1 x2 x3) := by
    unfold impl_ValidFault.f
    rw [geo_impl]
    simp only [Option.bind_some]
    cases hg : geoB a b c
    · simp
    · have e3 : impl_faultOk.f 1 a b c x0 x1 x2 x3 = _ := fault_impl 0 a b c x0 x1 x2 x3 hg
      rw [if_pos rfl, e3]
      simp
  rw [e1, e2]
  simp

end Go.Proofs.Ytgemaodbhagehaa.Pure
