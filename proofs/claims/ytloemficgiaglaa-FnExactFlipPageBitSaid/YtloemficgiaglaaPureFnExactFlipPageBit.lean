/- The pure statement of FnExactFlipPageBit holds. No condition beyond the row's bounds. -/
import Derived.Test.YtloemficgiaglaaQFnExactFlipPageBitx2
import Derived.Test.YtloemficgiaglaaLem
namespace Go.Proofs.Ytloemficgiaglaa.Pure
open Go.RowKit Go.Proofs.Ytloemficgiaglaa.QFnExactFlipPageBit Go.Proofs.YtloemficgiaglaaW.PrintWords Go.Proofs.YtloemficgiaglaaW.PrintLast
open Go.Proofs.Ytloemficgiaglaa.Lem
theorem flip_same (a : ByteArray) (b : Int) : ∃ z, spec_FlipPageBit.f a b = some z ∧ impl_FlipPageBit.f a b = some z := by
  unfold spec_FlipPageBit.f impl_FlipPageBit.f spec_l00In.f impl_within.f
  by_cases c : a.size = 91
  · have c' : (a.size : Int) = 91 := by omega
    rw [if_pos c, if_pos c']
    by_cases c1 : b ≥ 0
    · rw [if_pos c1]
      simp only [Option.bind_some]
      by_cases c2 : b ≤ 727
      · rw [decide_eq_true c2, if_pos rfl, if_pos rfl]
        unfold impl_flippedBit.f
        rw [if_pos ⟨c, c1, c2⟩]
        exact ⟨_, rfl, rfl⟩
      · rw [decide_eq_false c2, if_neg (by simp), if_neg (by simp)]
        exact ⟨_, rfl, rfl⟩
    · rw [if_neg c1]
      simp only [Option.bind_some]
      rw [if_neg (by simp), if_neg (by simp)]
      exact ⟨_, rfl, rfl⟩
  · have c' : ¬ (a.size : Int) = 91 := by omega
    rw [if_neg c, if_neg c']
    exact ⟨_, rfl, rfl⟩
theorem FnExactFlipPageBit : laws_FnExactFlipPageBit.Pure := by
  intro a b _ _
  unfold laws_FnExactFlipPageBit.f
  by_cases c : (a.size : Int) > 1048576
  · rw [if_pos c]
  · rw [if_neg c]
    obtain ⟨z, z1, z2⟩ := flip_same a b
    rw [z1, z2]
    simp
end Go.Proofs.Ytloemficgiaglaa.Pure
