/- The pure statement of FnExactXorBytes holds: the program's XorBytes and the reference's answer the same for all strings. Condition: the row's own bounds on the sizes. -/
import Derived.Test.YtloemficgiaglaaQFnExactXorBytesx1
import Derived.Test.YtloemficgiaglaaLem
namespace Go.Proofs.Ytloemficgiaglaa.Pure
open Go.RowKit Go.Proofs.Ytloemficgiaglaa.QFnExactXorBytes Go.Proofs.YtloemficgiaglaaW.PrintWords Go.Proofs.YtloemficgiaglaaW.PrintLast

open Go.Proofs.Ytloemficgiaglaa.Lem
theorem spec_xor (a b : ByteArray) (hb : a.size ≤ b.size) (ha : a.size ≤ 1048576) (d : Nat) : ∀ (k i : Nat), i + d = a.size → d < k →
    spec_l02Xor.l0 k a b (tab (xf a b) i) (i : Int) = some (xs a b) := by
  induction d with
  | zero =>
    intro k i hi hk
    obtain ⟨k, rfl⟩ : ∃ n, k = n + 1 := ⟨k - 1, by omega⟩
    simp only [spec_l02Xor.l0]
    rw [if_neg (by omega)]
    have e : i = a.size := by omega
    rw [e, xs]
  | succ d ih =>
    intro k i hi hk
    obtain ⟨k, rfl⟩ : ∃ n, k = n + 1 := ⟨k - 1, by omega⟩
    simp only [spec_l02Xor.l0]
    rw [if_pos (by omega), if_pos (by omega), if_pos (by omega), if_pos (by rw [tab_length]; omega), w64 (by omega) (by omega)]
    have e : tab (xf a b) i ++ [Go.bits .xor .u8 (bt a (i : Int)) (bt b (i : Int))] = tab (xf a b) (i + 1) := by rw [tab_succ]; rfl
    rw [e]
    exact ih k (i + 1) (by omega) (by omega)
theorem spec_xor_f (a b : ByteArray) (hb : a.size ≤ b.size) (ha : a.size ≤ 1048576) (k : Nat) (hk : a.size < k) : spec_l02Xor.f k a b = some (xs a b) :=
  spec_xor a b hb ha a.size k 0 (by omega) hk
theorem impl_xor (a b : ByteArray) (hb : a.size ≤ b.size) (ha : a.size ≤ 1048576) (d : Nat) : ∀ (k i : Nat), i + d = a.size → d < k →
    impl_xored.l0 k a b (fill (xf a b) a.size i) (a.size : Int) (i : Int) = some (xs a b) := by
  induction d with
  | zero =>
    intro k i hi hk
    obtain ⟨k, rfl⟩ : ∃ n, k = n + 1 := ⟨k - 1, by omega⟩
    simp only [impl_xored.l0]
    rw [if_neg (by omega)]
    have e : i = a.size := by omega
    rw [e, xs, fill_all]
  | succ d ih =>
    intro k i hi hk
    obtain ⟨k, rfl⟩ : ∃ n, k = n + 1 := ⟨k - 1, by omega⟩
    simp only [impl_xored.l0]
    have t : ((i : Int)).toNat = i := by omega
    rw [if_pos (by omega), if_pos (by omega), if_pos (by omega), if_pos (by omega), if_pos (by rw [fill_length _ _ _ (by omega)]; omega), w64 (by omega) (by omega), t]
    have e : (fill (xf a b) a.size i).set i (Go.bits .xor .u8 (bt a (i : Int)) (bt b (i : Int))) = fill (xf a b) a.size (i + 1) := fill_set (xf a b) a.size i (by omega)
    rw [e]
    exact ih k (i + 1) (by omega) (by omega)
theorem impl_xor_f (a b : ByteArray) (hb : a.size ≤ b.size) (ha : a.size ≤ 1048576) (k : Nat) (hk : a.size < k) : impl_xored.f k a b = some (xs a b) := by
  unfold impl_xored.f
  have t : ((a.size : Int)).toNat = a.size := by omega
  rw [if_pos (by omega), t, if_pos (by omega)]
  simp only [Option.bind_some]
  have h := impl_xor a b hb ha a.size k 0 (by omega) hk
  rw [fill_zero] at h
  rw [List.length_replicate]
  exact h
theorem FnExactXorBytes : laws_FnExactXorBytes.Pure := by
  intro a b ha hb
  refine ⟨300, ?_⟩
  unfold laws_FnExactXorBytes.f
  by_cases c0 : (a.size : Int) > 1048576
  · rw [if_pos c0]
  · rw [if_neg c0]
    by_cases c1 : (b.size : Int) > 1048576
    · rw [if_pos c1]
    · rw [if_neg c1]
      unfold spec_XorBytes.f impl_XorBytes.f
      by_cases c2 : (a.size : Int) = (b.size : Int)
      · by_cases c3 : (a.size : Int) > 256
        · rw [if_pos c2, if_pos c2, if_pos c3, if_pos c3]
          simp
        · rw [if_pos c2, if_pos c2, if_neg c3, if_neg c3, spec_xor_f a b (by omega) (by omega) 300 (by omega), impl_xor_f a b (by omega) (by omega) 300 (by omega)]
          simp
      · simp [c2]

end Go.Proofs.Ytloemficgiaglaa.Pure
