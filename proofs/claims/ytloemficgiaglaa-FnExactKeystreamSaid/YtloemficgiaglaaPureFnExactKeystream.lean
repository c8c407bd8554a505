/- The pure statement of FnExactKeystream holds: the program's Keystream and the reference's answer the same for all whole numbers. No condition. -/
import Derived.Test.YtloemficgiaglaaQFnExactKeystreamx1
import Derived.Test.YtloemficgiaglaaLem
namespace Go.Proofs.Ytloemficgiaglaa.Pure
open Go.RowKit Go.Proofs.Ytloemficgiaglaa.QFnExactKeystream Go.Proofs.YtloemficgiaglaaW.PrintWords Go.Proofs.YtloemficgiaglaaW.PrintLast

open Go.Proofs.Ytloemficgiaglaa.Lem
theorem step_range (x : Int) (h0 : 0 ≤ x) (h1 : x ≤ 65535) : ∃ y, impl_step.f x = some y ∧ spec_l02Step.f x = some y ∧ 0 ≤ y ∧ y ≤ 65535 := by
  obtain ⟨n, rfl⟩ := Int.eq_ofNat_of_zero_le h0
  have hn : n / 2 < 65536 := by omega
  have hx : (n / 2) ^^^ 46080 < 2 ^ 16 := Nat.xor_lt_two_pow hn (by decide)
  have e := xor_i64 (n / 2) 46080 hn (by decide)
  have e' : Go.bits .xor .i64 ((n : Int) / 2) 46080 = ((n / 2 ^^^ 46080 : Nat) : Int) := by simpa using e
  unfold impl_step.f spec_l02Step.f
  rw [and1 _ h0 (by omega), Int.tmod_eq_emod_of_nonneg h0, e']
  by_cases c : (n : Int) % 2 = 1
  · rw [if_pos c]
    exact ⟨_, rfl, rfl, by omega, by omega⟩
  · rw [if_neg c]
    exact ⟨_, rfl, rfl, by omega, by omega⟩
theorem bit_in (v m : Int) (x : Int) (x0 : 0 ≤ x) (x1 : x ≤ 65535) (m0 : 0 ≤ m) (m1 : m < 8) (v0 : 0 ≤ v) (v1 : v < 2 ^ m.toNat) :
    Go.bits .or .i64 v (shl .i64 (Go.bits .and .i64 x 1) (IntKind.u64.wrap m)) = v + x % 2 * 2 ^ m.toNat ∧ Go.bits .or .u8 v (shl .u8 ((Int.tmod x 2) % 256) m) = v + x % 2 * 2 ^ m.toNat ∧ v + x % 2 * 2 ^ m.toNat < 2 ^ (m + 1).toNat ∧ 0 ≤ v + x % 2 * 2 ^ m.toNat := by
  rw [u64 (by omega) (by omega), and1 x x0 (by omega), Int.tmod_eq_emod_of_nonneg x0]
  have hb : x % 2 = 0 ∨ x % 2 = 1 := by omega
  have hm : m = 0 ∨ m = 1 ∨ m = 2 ∨ m = 3 ∨ m = 4 ∨ m = 5 ∨ m = 6 ∨ m = 7 := by omega
  have k8 : ∀ n : Int, 0 ≤ n → n < 2 ^ 8 → IntKind.u8.wrap n = n := wraps_u8
  generalize x % 2 = b at *
  have s1 : shl .i64 b m = b * 2 ^ m.toNat := by
    rcases hm with rfl | rfl | rfl | rfl | rfl | rfl | rfl | rfl <;> rcases hb with rfl | rfl <;> decide +kernel
  have s2 : shl .u8 (b % 256) m = b * 2 ^ m.toNat := by
    rcases hm with rfl | rfl | rfl | rfl | rfl | rfl | rfl | rfl <;> rcases hb with rfl | rfl <;> decide +kernel
  have s3 : (2 : Int) ^ (m + 1).toNat = 2 * 2 ^ m.toNat := by
    rcases hm with rfl | rfl | rfl | rfl | rfl | rfl | rfl | rfl <;> decide +kernel
  have s4 : (2 : Int) ^ m.toNat ≤ 128 ∧ 1 ≤ (2 : Int) ^ m.toNat := by
    rcases hm with rfl | rfl | rfl | rfl | rfl | rfl | rfl | rfl <;> decide +kernel
  have s5 : b * 2 ^ m.toNat % 2 ^ m.toNat = 0 := Int.mul_emod_left b _
  have s6 : 0 ≤ b * 2 ^ m.toNat ∧ b * 2 ^ m.toNat ≤ 2 ^ m.toNat := by
    rcases hb with rfl | rfl
    · rw [Int.zero_mul]; omega
    · rw [Int.one_mul]; omega
  have o1 := or_low .i64 63 (by decide) i64_id m.toNat v (b * 2 ^ m.toNat) v0 v1 (by omega) s6.1 s5 (by omega)
  have o2 := or_low .u8 8 (by decide) k8 m.toNat v (b * 2 ^ m.toNat) v0 v1 (by omega) s6.1 s5 (by omega)
  rw [s1, s2, o1, o2, s3]
  exact ⟨rfl, rfl, by omega, by omega⟩
theorem inner (n : Int) (L Z : List Int) (d : Nat) : ∀ (x v m : Int), 0 ≤ x → x ≤ 65535 → 0 ≤ m → m + d = 8 → 0 ≤ v → v < 2 ^ m.toNat → L.length < 1000 →
    ∃ x' v' : Int, 0 ≤ x' ∧ x' ≤ 65535 ∧ 0 ≤ v' ∧ v' < 256 ∧
      (∀ k, spec_l02Stream.l1 (k + d + 1) x n L (L.length : Int) v m = spec_l02Stream.l0 k x' n (L ++ [v']) ((L.length + 1 : Nat) : Int)) ∧
      (∀ k, impl_keystream.l1 (k + d + 1) x (L ++ v :: Z) (L.length : Int) n (L.length : Int) m = impl_keystream.l0 k x' (L ++ v' :: Z) n ((L.length + 1 : Nat) : Int)) := by
  induction d with
  | zero =>
    intro x v m x0 x1 m0 hm v0 v1 hL
    obtain rfl : m = 8 := by omega
    have v2 : v < 256 := v1
    refine ⟨x, v, x0, x1, v0, v2, fun k => ?_, fun k => ?_⟩
    · simp only [spec_l02Stream.l1]
      rw [if_neg (by omega), if_pos (by omega), w64 (by omega) (by omega), show v % 256 = v by omega]
      rfl
    · simp only [impl_keystream.l1]
      rw [if_neg (by omega), w64 (by omega) (by omega)]
      rfl
  | succ d ih =>
    intro x v m x0 x1 m0 hm v0 v1 hL
    obtain ⟨y, s1, s2, y0, y1⟩ := step_range x x0 x1
    obtain ⟨b1, b2, b3, b4⟩ := bit_in v m x x0 x1 m0 (by omega) v0 v1
    obtain ⟨x', v', h1, h2, h3, h4, h5, h6⟩ := ih y (v + x % 2 * 2 ^ m.toNat) (m + 1) y0 y1 (by omega) (by omega) b4 b3 hL
    refine ⟨x', v', h1, h2, h3, h4, fun k => ?_, fun k => ?_⟩
    · rw [← h5 k, show k + (d + 1) + 1 = (k + d + 1) + 1 by omega]
      conv => lhs; rw [spec_l02Stream.l1]
      have hw : IntKind.u64.wrap m = m := u64 (by omega) (by omega)
      rw [if_pos (by omega), b1, hw, if_pos m0, s2]
      simp only [Option.bind_some]
      rw [w64 (by omega) (by omega)]
    · rw [← h6 k, show k + (d + 1) + 1 = (k + d + 1) + 1 by omega]
      conv => lhs; rw [impl_keystream.l1]
      have t : ((L.length : Int)).toNat = L.length := by omega
      have r : rd (L ++ v :: Z) (L.length : Int) = v := by simp [rd]
      have st : (L ++ v :: Z).set L.length (v + x % 2 * 2 ^ m.toNat) = L ++ (v + x % 2 * 2 ^ m.toNat) :: Z := by
        rw [List.set_append_right _ _ (Nat.le_refl _), Nat.sub_self]
        rfl
      rw [if_pos (by omega), if_pos (by omega), if_pos (by simp; omega), if_pos m0, s1]
      simp only [Option.bind_some]
      rw [t, r, b2, st, w64 (by omega) (by omega)]
theorem outer (n : Nat) (hn : n < 1000) (d : Nat) : ∀ (k : Nat) (x : Int) (L : List Int), 0 ≤ x → x ≤ 65535 → L.length + d = n → 10 * d < k →
    ∃ R : List Int, R.length = n ∧ spec_l02Stream.l0 k x (n : Int) L (L.length : Int) = some (strOfNums R) ∧ impl_keystream.l0 k x (L ++ List.replicate d 0) (n : Int) (L.length : Int) = some (strOfNums R) := by
  induction d with
  | zero =>
    intro k x L x0 x1 hL hk
    obtain ⟨k, rfl⟩ : ∃ m, k = m + 1 := ⟨k - 1, by omega⟩
    refine ⟨L, by omega, ?_, ?_⟩
    · simp only [spec_l02Stream.l0]
      rw [if_neg (by omega)]
    · simp only [impl_keystream.l0]
      rw [if_neg (by omega)]
      simp
  | succ d ih =>
    intro k x L x0 x1 hL hk
    obtain ⟨k, rfl⟩ : ∃ m, k = (m + 8 + 1) + 1 := ⟨k - 10, by omega⟩
    obtain ⟨x', v', h1, h2, h3, h4, h5, h6⟩ := inner (n : Int) L (List.replicate d 0) 8 x 0 0 x0 x1 (by omega) (by omega) (by omega) (by decide) (by omega)
    obtain ⟨R, e0, e1, e2⟩ := ih k x' (L ++ [v']) h1 h2 (by simp; omega) (by omega)
    have hl : (L ++ [v']).length = L.length + 1 := by simp
    rw [hl] at e1 e2
    refine ⟨R, e0, ?_, ?_⟩
    · conv => lhs; rw [spec_l02Stream.l0]
      rw [if_pos (by omega), h5 k]
      exact e1
    · conv => lhs; rw [impl_keystream.l0]
      rw [if_pos (by omega), List.replicate_succ, h6 k]
      simpa using e2
theorem streams (n : Nat) (hn : n < 1000) (k : Nat) (x : Int) (x0 : 0 ≤ x) (x1 : x ≤ 65535) (hk : 10 * n < k) : ∃ r : ByteArray, r.size = n ∧ spec_l02Stream.f k x (n : Int) = some r ∧ impl_keystream.f k x (n : Int) = some r := by
  obtain ⟨R, e0, e1, e2⟩ := outer n hn n k x [] x0 x1 (by simp) hk
  refine ⟨strOfNums R, by rw [strOfNums_size, e0], e1, ?_⟩
  unfold impl_keystream.f
  have t : ((n : Int)).toNat = n := by omega
  rw [if_pos (by omega), t, if_pos (by omega)]
  simp only [Option.bind_some]
  rw [List.length_replicate]
  exact e2
theorem FnExactKeystream : laws_FnExactKeystream.Pure := by
  intro a0 a1 h0 h1
  refine ⟨3000, ?_⟩
  unfold laws_FnExactKeystream.f spec_Keystream.f impl_Keystream.f
  by_cases c : a0 ≥ 1 ∧ a0 ≤ 65535
  · have v1 : spec_ValidState.f a0 = some true := by simp [spec_ValidState.f, spec_l00In.f, c]
    have v2 : impl_ValidState.f a0 = some true := by simp [impl_ValidState.f, impl_within.f, c]
    rw [v1, v2]
    by_cases d : a1 ≥ 0 ∧ a1 ≤ 256
    · have u1 : spec_l00In.f a1 0 256 = some true := by simp [spec_l00In.f, d]
      have u2 : impl_within.f a1 0 256 = some true := by simp [impl_within.f, d]
      obtain ⟨n, rfl⟩ := Int.eq_ofNat_of_zero_le (show 0 ≤ a1 by omega)
      obtain ⟨r, _, e1, e2⟩ := streams n (by omega) 3000 a0 (by omega) c.2 (by omega)
      have e1' : spec_l02Stream.f 3000 a0 (n : Int) = some r := e1
      rw [u1, u2]
      simp only [Option.bind_some, if_true]
      rw [e1, e2]
      simp
    · have u1 : spec_l00In.f a1 0 256 = some false := by
        unfold spec_l00In.f
        split
        · rw [decide_eq_false (by omega)]
        · rfl
      have u2 : impl_within.f a1 0 256 = some false := by
        unfold impl_within.f
        split
        · rw [decide_eq_false (by omega)]
        · rfl
      rw [u1, u2]
      simp
  · have v1 : spec_ValidState.f a0 = some false := by
      unfold spec_ValidState.f spec_l00In.f
      split
      · rw [decide_eq_false (by omega)]
        rfl
      · rfl
    have v2 : impl_ValidState.f a0 = some false := by
      unfold impl_ValidState.f impl_within.f
      split
      · rw [decide_eq_false (by omega)]
        rfl
      · rfl
    rw [v1, v2]
    simp

end Go.Proofs.Ytloemficgiaglaa.Pure
