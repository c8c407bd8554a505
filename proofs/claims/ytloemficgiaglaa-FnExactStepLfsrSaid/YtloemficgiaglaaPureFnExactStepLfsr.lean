/- The pure statement of FnExactStepLfsr holds: the program's StepLfsr and the reference's answer the same for every whole number. No condition. -/
import Derived.Test.YtloemficgiaglaaPFnExactStepLfsrx1
import Derived.Laws.BitsAllLaws
namespace Go.Proofs.Ytloemficgiaglaa.Pure
open Go.RowKit Go.Proofs.Ytloemficgiaglaa.PFnExactStepLfsr Go.Proofs.YtloemficgiaglaaW.PrintWords Go.Proofs.YtloemficgiaglaaW.PrintLast

theorem and1 (x : Int) (h0 : 0 ≤ x) (h1 : x < 9223372036854775808) : Go.bits .and .i64 x 1 = x % 2 := by
  have h := bits_mask .i64 63 (by decide) (fun m h0 h1 => by rw [IntKind.wrap_i64]; omega) 1 (by decide) x h0 (by omega)
  simpa using h
theorem xor_i64 (a b : Nat) (ha : a < 65536) (hb : b < 65536) : Go.bits .xor .i64 (a : Int) (b : Int) = ((a ^^^ b : Nat) : Int) := by
  have ha' : a % 2 ^ IntKind.i64.bits = a := Nat.mod_eq_of_lt (Nat.lt_of_lt_of_le ha (by decide))
  have hb' : b % 2 ^ IntKind.i64.bits = b := Nat.mod_eq_of_lt (Nat.lt_of_lt_of_le hb (by decide))
  have hx : a ^^^ b < 2 ^ 16 := Nat.xor_lt_two_pow ha hb
  simp only [Go.bits, BitVec.ofInt_natCast, BitVec.toNat_xor, BitVec.toNat_ofNat, ha', hb']
  rw [IntKind.wrap_i64]
  omega
theorem step_range (x : Int) (h0 : 0 ≤ x) (h1 : x ≤ 65535) : ∃ y, impl_step.f x = some y ∧ spec_l02Step.f x = some y ∧ 0 ≤ y ∧ y ≤ 65535 := by
  obtain ⟨n, rfl⟩ := Int.eq_ofNat_of_zero_le h0
  have hn : n / 2 < 65536 := by omega
  have hx : (n / 2) ^^^ 46080 < 2 ^ 16 := Nat.xor_lt_two_pow hn (by decide)
  have e := xor_i64 (n / 2) 46080 hn (by decide)
  have e' : Go.bits .xor .i64 ((n : Int) / 2) 46080 = ((n / 2 ^^^ 46080 : Nat) : Int) := by simpa using e
  unfold impl_step.f spec_l02Step.f
  rw [and1 _ h0 (by omega), Int.tmod_eq_emod_of_nonneg h0, e']
  by_cases c : (n : Int) % 2 = 1
  · rw [if_pos c]
    exact ⟨_, rfl, rfl, by omega, by omega⟩
  · rw [if_neg c]
    exact ⟨_, rfl, rfl, by omega, by omega⟩

theorem FnExactStepLfsr : laws_FnExactStepLfsr.Pure := by
  intro a0 h
  by_cases c0 : a0 ≥ 1
  · by_cases c1 : a0 ≤ 65535
    · obtain ⟨y, e1, e2, _⟩ := step_range a0 (by omega) c1
      simp [laws_FnExactStepLfsr.f, spec_StepLfsr.f, impl_StepLfsr.f, spec_ValidState.f, impl_ValidState.f, spec_l00In.f, impl_within.f, c0, c1, e1, e2]
    · simp [laws_FnExactStepLfsr.f, spec_StepLfsr.f, impl_StepLfsr.f, spec_ValidState.f, impl_ValidState.f, spec_l00In.f, impl_within.f, c0, c1]
  · simp [laws_FnExactStepLfsr.f, spec_StepLfsr.f, impl_StepLfsr.f, spec_ValidState.f, impl_ValidState.f, spec_l00In.f, impl_within.f, c0]

end Go.Proofs.Ytloemficgiaglaa.Pure
