/- The pure statement of FnExactCountOnes holds: the program's CountOnes and the reference's answer the same for every string. Condition: the row's own bound on the size. -/
import Derived.Test.YtgogdpcgmbbljaaQFnExactCountOnesx1
import Derived.Test.YtgogdpcgmbbljaaLem
namespace Go.Proofs.Ytgogdpcgmbbljaa.Pure
open Go.RowKit Go.Proofs.Ytgogdpcgmbbljaa.QFnExactCountOnes Go.Proofs.YtgogdpcgmbbljaaW.PrintWords Go.Proofs.YtgogdpcgmbbljaaW.PrintLast

open Go.Proofs.Ytgogdpcgmbbljaa.Lem
def same (v : Nat) : Bool := match spec_l02Ones.f 12 (v : Int), bits_OnesCount8.f (v : Int) with
  | some a, some b => a == b && decide (0 ≤ a) && decide (a ≤ 8)
  | _, _ => false
theorem same_all : ∀ v : Fin 256, same v.val = true := by decide +kernel
theorem ones (v : Int) (h0 : 0 ≤ v) (h1 : v ≤ 255) (k : Nat) (hk : 12 ≤ k) : ∃ a, spec_l02Ones.f k v = some a ∧ bits_OnesCount8.f v = some a ∧ 0 ≤ a ∧ a ≤ 8 := by
  obtain ⟨n, rfl⟩ := Int.eq_ofNat_of_zero_le h0
  have h := same_all ⟨n, by omega⟩
  unfold same at h
  simp only at h
  split at h
  · rename_i a b ea eb
    simp at h
    obtain ⟨⟨h2, h3⟩, h4⟩ := h
    refine ⟨a, at_rounds (spec_l02Ones.mono (n : Int)) hk ea, ?_, h3, h4⟩
    rw [h2]
    exact eb
  · exact absurd h (by simp)
theorem both (s : ByteArray) (hs : s.size ≤ 1048576) (d : Nat) : ∀ (k : Nat) (c i : Int), 0 ≤ i → (s.size : Int) - i = d → 0 ≤ c ∧ c ≤ 8 * i → d + 13 ≤ k →
    ∃ r, spec_CountOnes.l0 k s c i = some r ∧ impl_CountOnes.l0 k s c (s.size : Int) i = some r := by
  induction d with
  | zero =>
    intro k c i h0 hd hc hk
    obtain ⟨k, rfl⟩ : ∃ n, k = n + 1 := ⟨k - 1, by omega⟩
    refine ⟨c, ?_, ?_⟩
    · rw [spec_CountOnes.l0, if_neg (by omega)]
    · rw [impl_CountOnes.l0, if_neg (by omega)]
  | succ d ih =>
    intro k c i h0 hd hc hk
    obtain ⟨k, rfl⟩ : ∃ n, k = n + 1 := ⟨k - 1, by omega⟩
    have hr := bt_range s i
    obtain ⟨a, e1, e2, a0, a1⟩ := ones (bt s i) hr.1 hr.2 k (by omega)
    obtain ⟨r, g1, g2⟩ := ih k (c + a) (i + 1) (by omega) (by omega) (by omega) (by omega)
    refine ⟨r, ?_, ?_⟩
    · rw [spec_CountOnes.l0, if_pos (by omega), if_pos h0, w64 (n := bt s i) (by omega) (by omega), e1]
      simp only [Option.bind_some]
      rw [w64 (by omega) (by omega), w64 (by omega) (by omega)]
      exact g1
    · rw [impl_CountOnes.l0, if_pos (by omega), if_pos h0, if_pos (by omega), e2]
      simp only [Option.bind_some]
      rw [w64 (by omega) (by omega), w64 (by omega) (by omega)]
      exact g2
theorem FnExactCountOnes : laws_FnExactCountOnes.Pure := by
  intro s hs
  refine ⟨s.size + 20, ?_⟩
  unfold laws_FnExactCountOnes.f
  by_cases c0 : (s.size : Int) > 1048576
  · rw [if_pos c0]
  · rw [if_neg c0]
    obtain ⟨r, e1, e2⟩ := both s (by omega) s.size (s.size + 20) 0 0 (by omega) (by omega) (by omega) (by omega)
    have e1' : spec_CountOnes.f (s.size + 20) s = some r := e1
    have e2' : impl_CountOnes.f (s.size + 20) s = some r := e2
    rw [e1', e2']
    simp

end Go.Proofs.Ytgogdpcgmbbljaa.Pure
