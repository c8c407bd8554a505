/- The pure statement of FnExactUnitOn holds: the program's UnitOn and the reference's answer the same for all whole numbers. No condition. -/
import Derived.Test.YtloemficgiaglaaPFnExactUnitOnx1
namespace Go.Proofs.Ytloemficgiaglaa.Pure
open Go.RowKit Go.Proofs.Ytloemficgiaglaa.PFnExactUnitOn Go.Proofs.YtloemficgiaglaaW.PrintWords Go.Proofs.YtloemficgiaglaaW.PrintLast

theorem seven {P : Int → Prop} (d : Int) (h0 : d ≥ 2) (h1 : d ≤ 8) (a : P 2) (b : P 3) (c : P 4) (e : P 5) (f : P 6) (g : P 7) (i : P 8) : P d := by
  have : d = 2 ∨ d = 3 ∨ d = 4 ∨ d = 5 ∨ d = 6 ∨ d = 7 ∨ d = 8 := by omega
  rcases this with rfl | rfl | rfl | rfl | rfl | rfl | rfl <;> assumption
theorem data (row c dies : Int) (c0 : row ≥ 0) (c1 : dies ≥ 2) (c2 : dies ≤ 8) (k0 : 0 ≤ c) (k1 : c < dies - 1) : spec_DataDie.f row c dies = some ((dies - row % dies + c) % dies) := by
  have c3 : ¬ dies = 0 := by omega
  have m0 := Int.emod_nonneg row c3
  have m1 := Int.emod_lt_of_pos row (show 0 < dies by omega)
  have e0 : c ≤ wrap64 (dies - 2) := by unfold wrap64; omega
  have e1 : wrap64 ((wrap64 (dies - row % dies)) + c) = dies - row % dies + c := by
    generalize row % dies = m at *
    unfold wrap64
    omega
  have e2 : ((dies - row % dies + c)).tmod dies = (dies - row % dies + c) % dies := Int.tmod_eq_emod_of_nonneg (by omega)
  simp [spec_DataDie.f, spec_l04Valid.f, spec_l00In.f, c0, c1, c2, c3, k0, e0, Int.tmod_eq_emod_of_nonneg c0, e1, e2]
theorem mods (m c die dies : Int) (c1 : dies ≥ 2) (c2 : dies ≤ 8) (m1 : m < dies) (k0 : 0 ≤ c) (k1 : c < dies - 1) (d0 : 0 ≤ die) (d1 : die < dies) :
    ((dies - m + c) % dies = die → c = (die + m) % dies) ∧ (c = (die + m) % dies → (dies - m + c) % dies = die) := by
  revert m1 k1 d1
  refine seven (P := fun dies => m < dies → c < dies - 1 → die < dies → ((dies - m + c) % dies = die → c = (die + m) % dies) ∧ (c = (die + m) % dies → (dies - m + c) % dies = die)) dies c1 c2 ?_ ?_ ?_ ?_ ?_ ?_ ?_ <;> intro _ _ _ <;> omega
theorem rounds (row die dies : Int) (c0 : row ≥ 0) (c1 : dies ≥ 2) (c2 : dies ≤ 8) (d0 : 0 ≤ die) (d1 : die < dies) (d : Nat) :
    ∀ (k : Nat) (c : Int), 0 ≤ c → c ≤ (die + row % dies) % dies → (die + row % dies) % dies - c < d → d < k → spec_UnitOn.l0 k row die dies c = some ((die + row % dies) % dies) := by
  have c3 : ¬ dies = 0 := by omega
  have m0 := Int.emod_nonneg row c3
  have m1 := Int.emod_lt_of_pos row (show 0 < dies by omega)
  have u1 := Int.emod_lt_of_pos (die + row % dies) (show 0 < dies by omega)
  have w1 : wrap64 (dies - 1) = dies - 1 := by unfold wrap64; omega
  induction d with
  | zero => intro k c k0 k1 hd hk; omega
  | succ d ih =>
    intro k c k0 k1 hd hk
    obtain ⟨k, rfl⟩ : ∃ n, k = n + 1 := ⟨k - 1, by omega⟩
    simp only [spec_UnitOn.l0]
    rw [w1]
    by_cases cc : c < dies - 1
    · rw [if_pos cc, data row c dies c0 c1 c2 k0 cc]
      simp only [Option.bind_some]
      have hm := mods (row % dies) c die dies c1 c2 m1 k0 cc d0 d1
      by_cases e : (dies - row % dies + c) % dies = die
      · rw [if_pos e, ← hm.1 e]
      · rw [if_neg e]
        have hne : c ≠ (die + row % dies) % dies := fun h => e (hm.2 h)
        have w2 : wrap64 (c + 1) = c + 1 := by unfold wrap64; omega
        rw [w2]
        exact ih k (c + 1) (by omega) (by omega) (by omega) (by omega)
    · rw [if_neg cc]
      have : dies - 1 = (die + row % dies) % dies := by omega
      rw [this]
theorem whole (row die dies : Int) (c0 : row ≥ 0) (c1 : dies ≥ 2) (c2 : dies ≤ 8) (d0 : 0 ≤ die) (d1 : die < dies) : impl_unitOn.f row die dies = some ((die + row % dies) % dies) := by
  have c3 : ¬ dies = 0 := by omega
  have m0 := Int.emod_nonneg row c3
  have m1 := Int.emod_lt_of_pos row (show 0 < dies by omega)
  have e1 : wrap64 ((wrap64 ((wrap64 (die - wrap64 ((wrap64 (dies - 1)) - row % dies))) - 1)) + (wrap64 (2 * dies))) = die + row % dies + dies := by
    generalize row % dies = m at *
    unfold wrap64
    omega
  have e2 : (die + row % dies + dies).tmod dies = (die + row % dies) % dies := by
    rw [Int.tmod_eq_emod_of_nonneg (by omega)]
    simp
  simp [impl_unitOn.f, impl_parityDie.f, c3, Int.tmod_eq_emod_of_nonneg c0, e1, e2]

theorem FnExactUnitOn : laws_FnExactUnitOn.Pure := by
  intro row die dies h0 h1 h2
  refine ⟨20, ?_⟩
  by_cases c : row ≥ 0 ∧ dies ≥ 2 ∧ dies ≤ 8
  · obtain ⟨c0, c1, c2⟩ := c
    have c3 : ¬ dies = 0 := by omega
    by_cases c4 : die ≥ 0
    · by_cases c5 : die ≤ wrap64 (dies - 1)
      · have hd : die < dies := by unfold wrap64 at c5; omega
        have e1 := rounds row die dies c0 c1 c2 c4 hd 8 19 0 (by omega) (Int.emod_nonneg _ c3) (by have := Int.emod_lt_of_pos (die + row % dies) (show 0 < dies by omega); omega) (by omega)
        have e2 := whole row die dies c0 c1 c2 c4 hd
        simp [laws_FnExactUnitOn.f, spec_UnitOn.f, spec_UnitOn.j0, impl_UnitOn.f, spec_l04Valid.f, impl_rowOk.f, spec_l00In.f, impl_within.f, c0, c1, c2, c4, c5, e1, e2]
      · simp [laws_FnExactUnitOn.f, spec_UnitOn.f, spec_UnitOn.j0, impl_UnitOn.f, spec_l04Valid.f, impl_rowOk.f, spec_l00In.f, impl_within.f, c0, c1, c2, c4, c5]
    · simp [laws_FnExactUnitOn.f, spec_UnitOn.f, spec_UnitOn.j0, impl_UnitOn.f, spec_l04Valid.f, impl_rowOk.f, spec_l00In.f, impl_within.f, c0, c1, c2, c4]
  · by_cases c0 : row ≥ 0 <;> by_cases c1 : dies ≥ 2 <;> by_cases c2 : dies ≤ 8 <;>
      simp [laws_FnExactUnitOn.f, spec_UnitOn.f, spec_UnitOn.j0, impl_UnitOn.f, spec_l04Valid.f, impl_rowOk.f, spec_l00In.f, impl_within.f, c0, c1, c2] <;> omega

end Go.Proofs.Ytloemficgiaglaa.Pure
