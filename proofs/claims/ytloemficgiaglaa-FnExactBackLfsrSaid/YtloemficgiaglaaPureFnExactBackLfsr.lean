/- The pure statement of FnExactBackLfsr holds: the program's BackLfsr and the reference's answer the same for every whole number. No condition. -/
import Derived.Test.YtloemficgiaglaaPFnExactBackLfsrx1
import Derived.Laws.BitsAllLaws
namespace Go.Proofs.Ytloemficgiaglaa.Pure
open Go.RowKit Go.Proofs.Ytloemficgiaglaa.PFnExactBackLfsr Go.Proofs.YtloemficgiaglaaW.PrintWords Go.Proofs.YtloemficgiaglaaW.PrintLast

theorem FnExactBackLfsr : laws_FnExactBackLfsr.Pure := by
  intro a0 h
  by_cases c0 : a0 ≥ 1
  · by_cases c1 : a0 ≤ 65535
    · have e : Go.bits .and .i64 a0 32768 = a0 / 32768 * 32768 := by
        obtain ⟨n, rfl⟩ := Int.eq_ofNat_of_zero_le (show 0 ≤ a0 by omega)
        have h1 := (bits_nat .i64 63 (by decide) (fun m h0 h1 => by rw [IntKind.wrap_i64]; omega) n 32768 (by omega) (by decide)).1
        have h2 : Go.bits .and .i64 (n : Int) 32768 = ((n &&& 32768 : Nat) : Int) := h1
        have h3 : n &&& 32768 = n / 32768 % 2 * 32768 := nat_bit 15 n
        rw [h2, h3]
        omega
      by_cases c2 : a0 / 32768 = 1
      · simp [laws_FnExactBackLfsr.f, spec_BackLfsr.f, impl_BackLfsr.f, spec_ValidState.f, impl_ValidState.f, spec_l00In.f, impl_within.f, c0, c1, c2, e]
      · have c3 : a0 / 32768 = 0 := by omega
        simp [laws_FnExactBackLfsr.f, spec_BackLfsr.f, impl_BackLfsr.f, spec_ValidState.f, impl_ValidState.f, spec_l00In.f, impl_within.f, c0, c1, c3, e]
    · simp [laws_FnExactBackLfsr.f, spec_BackLfsr.f, impl_BackLfsr.f, spec_ValidState.f, impl_ValidState.f, spec_l00In.f, impl_within.f, c0, c1]
  · simp [laws_FnExactBackLfsr.f, spec_BackLfsr.f, impl_BackLfsr.f, spec_ValidState.f, impl_ValidState.f, spec_l00In.f, impl_within.f, c0]

end Go.Proofs.Ytloemficgiaglaa.Pure
