/- The pure statement of FnExactEncodeFixed holds: the program's EncodeFixed and the reference's answer the same for all whole numbers. No condition. -/
import Derived.Test.YtgogdpcgmbbljaaQFnExactEncodeFixedx1
import Derived.Test.YtgogdpcgmbbljaaLem
namespace Go.Proofs.Ytgogdpcgmbbljaa.Pure
open Go.RowKit Go.Proofs.Ytgogdpcgmbbljaa.QFnExactEncodeFixed Go.Proofs.YtgogdpcgmbbljaaW.PrintWords Go.Proofs.YtgogdpcgmbbljaaW.PrintLast

open Go.Proofs.Ytgogdpcgmbbljaa.Lem
def byteAt (x : Int) (i : Nat) : Int := (shr .i64 x (8 * (i : Int))) % 256
theorem spec_fix (x : Int) (n : Nat) (hn : n ≤ 8) (d : Nat) : ∀ (k i : Nat), i + d = n → d < k →
    spec_EncodeFixed.l0 k x (n : Int) (tab (byteAt x) i) (i : Int) = some (strOfNums (tab (byteAt x) n)) := by
  have v1 : spec_l00In.f (n : Int) 0 8 = some true := by simp [spec_l00In.f]; omega
  induction d with
  | zero =>
    intro k i hi hk
    obtain ⟨k, rfl⟩ : ∃ n, k = n + 1 := ⟨k - 1, by omega⟩
    rw [spec_EncodeFixed.l0, v1]
    simp only [Option.bind_some, if_true]
    obtain rfl : i = n := by omega
    rw [if_neg (by omega)]
  | succ d ih =>
    intro k i hi hk
    obtain ⟨k, rfl⟩ : ∃ n, k = n + 1 := ⟨k - 1, by omega⟩
    rw [spec_EncodeFixed.l0, v1]
    simp only [Option.bind_some, if_true]
    have w : IntKind.u64.wrap (wrap64 (8 * (i : Int))) = 8 * (i : Int) := by rw [w64 (by omega) (by omega), u64 (by omega) (by omega)]
    rw [if_pos (by omega), w, if_pos (by omega), if_pos (by rw [tab_length]; omega), w64 (by omega) (by omega)]
    have e : tab (byteAt x) i ++ [(shr .i64 x (8 * (i : Int))) % 256] = tab (byteAt x) (i + 1) := by rw [tab_succ]; rfl
    rw [e]
    exact ih k (i + 1) (by omega) (by omega)
theorem impl_fix (x : Int) (n : Nat) (hn : n ≤ 8) (d : Nat) : ∀ (k i : Nat), i + d = n → d < k →
    impl_fixed.l0 k x (fill (byteAt x) n i) (n : Int) (i : Int) = some (strOfNums (tab (byteAt x) n)) := by
  induction d with
  | zero =>
    intro k i hi hk
    obtain ⟨k, rfl⟩ : ∃ n, k = n + 1 := ⟨k - 1, by omega⟩
    rw [impl_fixed.l0]
    obtain rfl : i = n := by omega
    rw [if_neg (by omega), fill_all]
  | succ d ih =>
    intro k i hi hk
    obtain ⟨k, rfl⟩ : ∃ n, k = n + 1 := ⟨k - 1, by omega⟩
    rw [impl_fixed.l0]
    have w : wrap64 (8 * (i : Int)) = 8 * (i : Int) := w64 (by omega) (by omega)
    have t : ((i : Int)).toNat = i := by omega
    rw [if_pos (by omega), w, if_pos (by omega), if_pos (by omega), if_pos (by rw [fill_length _ _ _ (by omega)]; omega), w64 (by omega) (by omega), t]
    have e : (fill (byteAt x) n i).set i ((shr .i64 x (8 * (i : Int))) % 256) = fill (byteAt x) n (i + 1) := fill_set (byteAt x) n i (by omega)
    rw [e]
    exact ih k (i + 1) (by omega) (by omega)
theorem FnExactEncodeFixed : laws_FnExactEncodeFixed.Pure := by
  intro x n h0 h1
  refine ⟨20, ?_⟩
  unfold laws_FnExactEncodeFixed.f
  by_cases c : n ≥ 0 ∧ n ≤ 8
  · obtain ⟨m, rfl⟩ := Int.eq_ofNat_of_zero_le (show 0 ≤ n by omega)
    have e1 := spec_fix x m (by omega) m 20 0 (by omega) (by omega)
    have e2 := impl_fix x m (by omega) m 20 0 (by omega) (by omega)
    have v2 : impl_within.f (m : Int) 0 8 = some true := by simp [impl_within.f]; omega
    have e1' : spec_EncodeFixed.f 20 x (m : Int) = some (strOfNums (tab (byteAt x) m)) := e1
    have t : ((m : Int)).toNat = m := by omega
    rw [e1']
    unfold impl_EncodeFixed.f impl_fixed.f
    rw [v2]
    simp only [Option.bind_some, if_true]
    rw [if_pos (by omega), t, if_pos (by omega), List.length_replicate, ← fill_zero (byteAt x) m]
    have e2' : impl_fixed.l0 20 x (fill (byteAt x) m 0) (m : Int) 0 = some (strOfNums (tab (byteAt x) m)) := e2
    rw [e2']
    simp
  · have v1 : spec_l00In.f n 0 8 = some false := by
      unfold spec_l00In.f
      split
      · rw [decide_eq_false (by omega)]
      · rfl
    have v2 : impl_within.f n 0 8 = some false := by
      unfold impl_within.f
      split
      · rw [decide_eq_false (by omega)]
      · rfl
    have e1 : spec_EncodeFixed.f (19 + 1) x n = some (strOfNums []) := by
      unfold spec_EncodeFixed.f
      rw [spec_EncodeFixed.l0, v1]
      rfl
    have e1' : spec_EncodeFixed.f 20 x n = some (strOfNums []) := e1
    have e2 : impl_EncodeFixed.f 20 x n = some (strOfNums []) := by
      unfold impl_EncodeFixed.f
      rw [v2]
      rfl
    rw [e1', e2]
    simp

end Go.Proofs.Ytgogdpcgmbbljaa.Pure
