/- The pure statement of FnExactJumpLfsr holds: the program's JumpLfsr and the reference's answer the same for all whole numbers. No condition. -/
import Derived.Test.YtloemficgiaglaaPFnExactJumpLfsrx1
import Derived.Laws.BitsAllLaws
namespace Go.Proofs.Ytloemficgiaglaa.Pure
open Go.RowKit Go.Proofs.Ytloemficgiaglaa.PFnExactJumpLfsr Go.Proofs.YtloemficgiaglaaW.PrintWords Go.Proofs.YtloemficgiaglaaW.PrintLast

theorem and1 (x : Int) (h0 : 0 ≤ x) (h1 : x < 9223372036854775808) : Go.bits .and .i64 x 1 = x % 2 := by
  have h := bits_mask .i64 63 (by decide) (fun m h0 h1 => by rw [IntKind.wrap_i64]; omega) 1 (by decide) x h0 (by omega)
  simpa using h
theorem xor_i64 (a b : Nat) (ha : a < 65536) (hb : b < 65536) : Go.bits .xor .i64 (a : Int) (b : Int) = ((a ^^^ b : Nat) : Int) := by
  have ha' : a % 2 ^ IntKind.i64.bits = a := Nat.mod_eq_of_lt (Nat.lt_of_lt_of_le ha (by decide))
  have hb' : b % 2 ^ IntKind.i64.bits = b := Nat.mod_eq_of_lt (Nat.lt_of_lt_of_le hb (by decide))
  have hx : a ^^^ b < 2 ^ 16 := Nat.xor_lt_two_pow ha hb
  simp only [Go.bits, BitVec.ofInt_natCast, BitVec.toNat_xor, BitVec.toNat_ofNat, ha', hb']
  rw [IntKind.wrap_i64]
  omega
theorem step_range (x : Int) (h0 : 0 ≤ x) (h1 : x ≤ 65535) : ∃ y, impl_step.f x = some y ∧ spec_l02Step.f x = some y ∧ 0 ≤ y ∧ y ≤ 65535 := by
  obtain ⟨n, rfl⟩ := Int.eq_ofNat_of_zero_le h0
  have hn : n / 2 < 65536 := by omega
  have hx : (n / 2) ^^^ 46080 < 2 ^ 16 := Nat.xor_lt_two_pow hn (by decide)
  have e := xor_i64 (n / 2) 46080 hn (by decide)
  have e' : Go.bits .xor .i64 ((n : Int) / 2) 46080 = ((n / 2 ^^^ 46080 : Nat) : Int) := by simpa using e
  unfold impl_step.f spec_l02Step.f
  rw [and1 _ h0 (by omega), Int.tmod_eq_emod_of_nonneg h0, e']
  by_cases c : (n : Int) % 2 = 1
  · rw [if_pos c]
    exact ⟨_, rfl, rfl, by omega, by omega⟩
  · rw [if_neg c]
    exact ⟨_, rfl, rfl, by omega, by omega⟩

theorem jumps (d : Nat) : ∀ (k : Nat) (x m : Int), 0 ≤ x → x ≤ 65535 → m ≤ 70000 → ∀ i : Int, 0 ≤ i → m - i = d → d < k →
    ∃ y, spec_JumpLfsr.l0 k x (m - i) = some y ∧ impl_JumpLfsr.l0 k x m i = some y := by
  induction d with
  | zero =>
    intro k x m x0 x1 hm i i0 hd hk
    obtain ⟨k, rfl⟩ : ∃ n, k = n + 1 := ⟨k - 1, by omega⟩
    refine ⟨x, ?_, ?_⟩
    · simp only [spec_JumpLfsr.l0]
      rw [if_neg (by omega)]
    · simp only [impl_JumpLfsr.l0]
      rw [if_neg (by omega)]
  | succ d ih =>
    intro k x m x0 x1 hm i i0 hd hk
    obtain ⟨k, rfl⟩ : ∃ n, k = n + 1 := ⟨k - 1, by omega⟩
    obtain ⟨z, s1, s2, z0, z1⟩ := step_range x x0 x1
    obtain ⟨y, e1, e2⟩ := ih k z m z0 z1 hm (i + 1) (by omega) (by omega) (by omega)
    have w1 : wrap64 (m - i - 1) = m - (i + 1) := by unfold wrap64; omega
    have w2 : wrap64 (i + 1) = i + 1 := by unfold wrap64; omega
    refine ⟨y, ?_, ?_⟩
    · simp only [spec_JumpLfsr.l0]
      rw [if_pos (by omega), s2]
      simp only [Option.bind_some]
      rw [w1]
      exact e1
    · simp only [impl_JumpLfsr.l0]
      rw [if_pos (by omega), s1]
      simp only [Option.bind_some]
      rw [w2]
      exact e2

theorem FnExactJumpLfsr : laws_FnExactJumpLfsr.Pure := by
  intro a0 a1 h0 h1
  refine ⟨65600, ?_⟩
  by_cases c0 : a0 ≥ 1
  · by_cases c1 : a0 ≤ 65535
    · by_cases c2 : a1 < 0
      · simp [laws_FnExactJumpLfsr.f, spec_JumpLfsr.f, impl_JumpLfsr.f, spec_JumpLfsr.j0, impl_JumpLfsr.j0, spec_ValidState.f, impl_ValidState.f, spec_l00In.f, impl_within.f, c0, c1, c2]
      · have m0 := Int.emod_nonneg a1 (show (65535 : Int) ≠ 0 by decide)
        have m1 := Int.emod_lt_of_pos a1 (show (0 : Int) < 65535 by decide)
        obtain ⟨y, e1, e2⟩ := jumps (a1 % 65535).toNat 65599 a0 (a1 % 65535) (by omega) c1 (by omega) 0 (by omega) (by omega) (by omega)
        rw [show a1 % 65535 - 0 = a1 % 65535 by omega] at e1
        simp [laws_FnExactJumpLfsr.f, spec_JumpLfsr.f, impl_JumpLfsr.f, spec_JumpLfsr.j0, impl_JumpLfsr.j0, spec_ValidState.f, impl_ValidState.f, spec_l00In.f, impl_within.f, c0, c1, c2, Int.tmod_eq_emod_of_nonneg (show 0 ≤ a1 by omega), e1, e2]
    · simp [laws_FnExactJumpLfsr.f, spec_JumpLfsr.f, impl_JumpLfsr.f, spec_JumpLfsr.j0, impl_JumpLfsr.j0, spec_ValidState.f, impl_ValidState.f, spec_l00In.f, impl_within.f, c0, c1]
  · simp [laws_FnExactJumpLfsr.f, spec_JumpLfsr.f, impl_JumpLfsr.f, spec_JumpLfsr.j0, impl_JumpLfsr.j0, spec_ValidState.f, impl_ValidState.f, spec_l00In.f, impl_within.f, c0]

end Go.Proofs.Ytloemficgiaglaa.Pure
