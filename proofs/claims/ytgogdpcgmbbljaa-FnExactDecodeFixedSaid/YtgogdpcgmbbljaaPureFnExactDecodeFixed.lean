/- The pure statement of FnExactDecodeFixed holds: the program's DecodeFixed and the reference's answer the same for every string. Condition: the row's own bound on the string's size. -/
import Derived.Test.YtgogdpcgmbbljaaPFnExactDecodeFixedx1
import Derived.Laws.Bits64
namespace Go.Proofs.Ytgogdpcgmbbljaa.Pure
open Go.RowKit Go.Proofs.Ytgogdpcgmbbljaa.PFnExactDecodeFixed Go.Proofs.YtgogdpcgmbbljaaW.PrintWords Go.Proofs.YtgogdpcgmbbljaaW.PrintLast

theorem sh8 (i : Int) (h0 : 0 ≤ i) (h1 : i < 9) : IntKind.u64.wrap (wrap64 (8 * i)) = wrap64 (8 * i) := by
  rw [IntKind.wrap_u64]
  unfold wrap64
  omega
theorem both (s : ByteArray) (h8 : (s.size : Int) ≤ 8) (d : Nat) : ∀ (k : Nat) (n i : Int), 0 ≤ i → i ≤ s.size → (s.size : Int) - i = d → d < k →
    ∃ r, spec_DecodeFixed.l0 k s n i = some r ∧ impl_DecodeFixed.l0 k s n (s.size : Int) i = some r := by
  induction d with
  | zero =>
    intro k n i h0 h1 hd hk
    obtain ⟨k, rfl⟩ : ∃ m, k = m + 1 := ⟨k - 1, by omega⟩
    refine ⟨n, ?_, ?_⟩
    · simp only [spec_DecodeFixed.l0]
      rw [if_pos h8, if_neg (by omega)]
    · simp only [impl_DecodeFixed.l0]
      rw [if_neg (by omega)]
  | succ d ih =>
    intro k n i h0 h1 hd hk
    obtain ⟨k, rfl⟩ : ∃ m, k = m + 1 := ⟨k - 1, by omega⟩
    have hw : wrap64 (i + 1) = i + 1 := by unfold wrap64; omega
    have hz : 0 ≤ wrap64 (8 * i) := by unfold wrap64; omega
    obtain ⟨r, e1, e2⟩ := ih k (Go.bits .or .i64 n (shl .i64 (wrap64 (bt s i)) (wrap64 (8 * i)))) (i + 1) (by omega) (by omega) (by omega) (by omega)
    refine ⟨r, ?_, ?_⟩
    · simp only [spec_DecodeFixed.l0]
      rw [sh8 i h0 (by omega), if_pos h8, if_pos (by omega), if_pos h0, if_pos hz, hw]
      exact e1
    · simp only [impl_DecodeFixed.l0]
      rw [if_pos (by omega), if_pos h0, if_pos (by omega), if_pos hz, hw]
      exact e2

theorem FnExactDecodeFixed : laws_FnExactDecodeFixed.Pure := by
  intro s hs
  refine ⟨10, ?_⟩
  unfold laws_FnExactDecodeFixed.f spec_DecodeFixed.f impl_DecodeFixed.f
  by_cases h1 : (s.size : Int) > 1048576
  · rw [if_pos h1]
  · rw [if_neg h1]
    by_cases h8 : (s.size : Int) > 8
    · rw [if_pos h8]
      simp only [spec_DecodeFixed.l0]
      rw [if_neg (by omega)]
      simp
    · rw [if_neg h8]
      obtain ⟨r, e1, e2⟩ := both s (by omega) s.size 10 0 0 (by omega) (by omega) (by omega) (by omega)
      rw [e1, e2]
      simp

end Go.Proofs.Ytgogdpcgmbbljaa.Pure
