/- The pure statement of FnExactScramble holds: the program's Scramble and the reference's answer the same for every whole number and string. Condition: the row's own bound on the size. -/
import Derived.Test.YtloemficgiaglaaQFnExactScramblex2
import Derived.Test.YtloemficgiaglaaLem
namespace Go.Proofs.Ytloemficgiaglaa.Pure
open Go.RowKit Go.Proofs.Ytloemficgiaglaa.QFnExactScramble Go.Proofs.YtloemficgiaglaaW.PrintWords Go.Proofs.YtloemficgiaglaaW.PrintLast

open Go.Proofs.Ytloemficgiaglaa.Lem
theorem step_range (x : Int) (h0 : 0 ≤ x) (h1 : x ≤ 65535) : ∃ y, impl_step.f x = some y ∧ spec_l02Step.f x = some y ∧ 0 ≤ y ∧ y ≤ 65535 := by
  obtain ⟨n, rfl⟩ := Int.eq_ofNat_of_zero_le h0
  have hn : n / 2 < 65536 := by omega
  have hx : (n / 2) ^^^ 46080 < 2 ^ 16 := Nat.xor_lt_two_pow hn (by decide)
  have e := xor_i64 (n / 2) 46080 hn (by decide)
  have e' : Go.bits .xor .i64 ((n : Int) / 2) 46080 = ((n / 2 ^^^ 46080 : Nat) : Int) := by simpa using e
  unfold impl_step.f spec_l02Step.f
  rw [and1 _ h0 (by omega), Int.tmod_eq_emod_of_nonneg h0, e']
  by_cases c : (n : Int) % 2 = 1
  · rw [if_pos c]
    exact ⟨_, rfl, rfl, by omega, by omega⟩
  · rw [if_neg c]
    exact ⟨_, rfl, rfl, by omega, by omega⟩
theorem bit_in (v m : Int) (x : Int) (x0 : 0 ≤ x) (x1 : x ≤ 65535) (m0 : 0 ≤ m) (m1 : m < 8) (v0 : 0 ≤ v) (v1 : v < 2 ^ m.toNat) :
    Go.bits .or .i64 v (shl .i64 (Go.bits .and .i64 x 1) (IntKind.u64.wrap m)) = v + x % 2 * 2 ^ m.toNat ∧ Go.bits .or .u8 v (shl .u8 ((Int.tmod x 2) % 256) m) = v + x % 2 * 2 ^ m.toNat ∧ v + x % 2 * 2 ^ m.toNat < 2 ^ (m + 1).toNat ∧ 0 ≤ v + x % 2 * 2 ^ m.toNat := by
  rw [u64 (by omega) (by omega), and1 x x0 (by omega), Int.tmod_eq_emod_of_nonneg x0]
  have hb : x % 2 = 0 ∨ x % 2 = 1 := by omega
  have hm : m = 0 ∨ m = 1 ∨ m = 2 ∨ m = 3 ∨ m = 4 ∨ m = 5 ∨ m = 6 ∨ m = 7 := by omega
  have k8 : ∀ n : Int, 0 ≤ n → n < 2 ^ 8 → IntKind.u8.wrap n = n := wraps_u8
  generalize x % 2 = b at *
  have s1 : shl .i64 b m = b * 2 ^ m.toNat := by
    rcases hm with rfl | rfl | rfl | rfl | rfl | rfl | rfl | rfl <;> rcases hb with rfl | rfl <;> decide +kernel
  have s2 : shl .u8 (b % 256) m = b * 2 ^ m.toNat := by
    rcases hm with rfl | rfl | rfl | rfl | rfl | rfl | rfl | rfl <;> rcases hb with rfl | rfl <;> decide +kernel
  have s3 : (2 : Int) ^ (m + 1).toNat = 2 * 2 ^ m.toNat := by
    rcases hm with rfl | rfl | rfl | rfl | rfl | rfl | rfl | rfl <;> decide +kernel
  have s4 : (2 : Int) ^ m.toNat ≤ 128 ∧ 1 ≤ (2 : Int) ^ m.toNat := by
    rcases hm with rfl | rfl | rfl | rfl | rfl | rfl | rfl | rfl <;> decide +kernel
  have s5 : b * 2 ^ m.toNat % 2 ^ m.toNat = 0 := Int.mul_emod_left b _
  have s6 : 0 ≤ b * 2 ^ m.toNat ∧ b * 2 ^ m.toNat ≤ 2 ^ m.toNat := by
    rcases hb with rfl | rfl
    · rw [Int.zero_mul]; omega
    · rw [Int.one_mul]; omega
  have o1 := or_low .i64 63 (by decide) i64_id m.toNat v (b * 2 ^ m.toNat) v0 v1 (by omega) s6.1 s5 (by omega)
  have o2 := or_low .u8 8 (by decide) k8 m.toNat v (b * 2 ^ m.toNat) v0 v1 (by omega) s6.1 s5 (by omega)
  rw [s1, s2, o1, o2, s3]
  exact ⟨rfl, rfl, by omega, by omega⟩
theorem inner (n : Int) (L Z : List Int) (d : Nat) : ∀ (x v m : Int), 0 ≤ x → x ≤ 65535 → 0 ≤ m → m + d = 8 → 0 ≤ v → v < 2 ^ m.toNat → L.length < 1000 →
    ∃ x' v' : Int, 0 ≤ x' ∧ x' ≤ 65535 ∧ 0 ≤ v' ∧ v' < 256 ∧
      (∀ k, spec_l02Stream.l1 (k + d + 1) x n L (L.length : Int) v m = spec_l02Stream.l0 k x' n (L ++ [v']) ((L.length + 1 : Nat) : Int)) ∧
      (∀ k, impl_keystream.l1 (k + d + 1) x (L ++ v :: Z) (L.length : Int) n (L.length : Int) m = impl_keystream.l0 k x' (L ++ v' :: Z) n ((L.length + 1 : Nat) : Int)) := by
  induction d with
  | zero =>
    intro x v m x0 x1 m0 hm v0 v1 hL
    obtain rfl : m = 8 := by omega
    have v2 : v < 256 := v1
    refine ⟨x, v, x0, x1, v0, v2, fun k => ?_, fun k => ?_⟩
    · simp only [spec_l02Stream.l1]
      rw [if_neg (by omega), if_pos (by omega), w64 (by omega) (by omega), show v % 256 = v by omega]
      rfl
    · simp only [impl_keystream.l1]
      rw [if_neg (by omega), w64 (by omega) (by omega)]
      rfl
  | succ d ih =>
    intro x v m x0 x1 m0 hm v0 v1 hL
    obtain ⟨y, s1, s2, y0, y1⟩ := step_range x x0 x1
    obtain ⟨b1, b2, b3, b4⟩ := bit_in v m x x0 x1 m0 (by omega) v0 v1
    obtain ⟨x', v', h1, h2, h3, h4, h5, h6⟩ := ih y (v + x % 2 * 2 ^ m.toNat) (m + 1) y0 y1 (by omega) (by omega) b4 b3 hL
    refine ⟨x', v', h1, h2, h3, h4, fun k => ?_, fun k => ?_⟩
    · rw [← h5 k, show k + (d + 1) + 1 = (k + d + 1) + 1 by omega]
      conv => lhs; rw [spec_l02Stream.l1]
      have hw : IntKind.u64.wrap m = m := u64 (by omega) (by omega)
      rw [if_pos (by omega), b1, hw, if_pos m0, s2]
      simp only [Option.bind_some]
      rw [w64 (by omega) (by omega)]
    · rw [← h6 k, show k + (d + 1) + 1 = (k + d + 1) + 1 by omega]
      conv => lhs; rw [impl_keystream.l1]
      have t : ((L.length : Int)).toNat = L.length := by omega
      have r : rd (L ++ v :: Z) (L.length : Int) = v := by simp [rd]
      have st : (L ++ v :: Z).set L.length (v + x % 2 * 2 ^ m.toNat) = L ++ (v + x % 2 * 2 ^ m.toNat) :: Z := by
        rw [List.set_append_right _ _ (Nat.le_refl _), Nat.sub_self]
        rfl
      rw [if_pos (by omega), if_pos (by omega), if_pos (by simp; omega), if_pos m0, s1]
      simp only [Option.bind_some]
      rw [t, r, b2, st, w64 (by omega) (by omega)]
theorem outer (n : Nat) (hn : n < 1000) (d : Nat) : ∀ (k : Nat) (x : Int) (L : List Int), 0 ≤ x → x ≤ 65535 → L.length + d = n → 10 * d < k →
    ∃ R : List Int, R.length = n ∧ spec_l02Stream.l0 k x (n : Int) L (L.length : Int) = some (strOfNums R) ∧ impl_keystream.l0 k x (L ++ List.replicate d 0) (n : Int) (L.length : Int) = some (strOfNums R) := by
  induction d with
  | zero =>
    intro k x L x0 x1 hL hk
    obtain ⟨k, rfl⟩ : ∃ m, k = m + 1 := ⟨k - 1, by omega⟩
    refine ⟨L, by omega, ?_, ?_⟩
    · simp only [spec_l02Stream.l0]
      rw [if_neg (by omega)]
    · simp only [impl_keystream.l0]
      rw [if_neg (by omega)]
      simp
  | succ d ih =>
    intro k x L x0 x1 hL hk
    obtain ⟨k, rfl⟩ : ∃ m, k = (m + 8 + 1) + 1 := ⟨k - 10, by omega⟩
    obtain ⟨x', v', h1, h2, h3, h4, h5, h6⟩ := inner (n : Int) L (List.replicate d 0) 8 x 0 0 x0 x1 (by omega) (by omega) (by omega) (by decide) (by omega)
    obtain ⟨R, e0, e1, e2⟩ := ih k x' (L ++ [v']) h1 h2 (by simp; omega) (by omega)
    have hl : (L ++ [v']).length = L.length + 1 := by simp
    rw [hl] at e1 e2
    refine ⟨R, e0, ?_, ?_⟩
    · conv => lhs; rw [spec_l02Stream.l0]
      rw [if_pos (by omega), h5 k]
      exact e1
    · conv => lhs; rw [impl_keystream.l0]
      rw [if_pos (by omega), List.replicate_succ, h6 k]
      simpa using e2
theorem streams (n : Nat) (hn : n < 1000) (k : Nat) (x : Int) (x0 : 0 ≤ x) (x1 : x ≤ 65535) (hk : 10 * n < k) : ∃ r : ByteArray, r.size = n ∧ spec_l02Stream.f k x (n : Int) = some r ∧ impl_keystream.f k x (n : Int) = some r := by
  obtain ⟨R, e0, e1, e2⟩ := outer n hn n k x [] x0 x1 (by simp) hk
  refine ⟨strOfNums R, by rw [strOfNums_size, e0], e1, ?_⟩
  unfold impl_keystream.f
  have t : ((n : Int)).toNat = n := by omega
  rw [if_pos (by omega), t, if_pos (by omega)]
  simp only [Option.bind_some]
  rw [List.length_replicate]
  exact e2
theorem spec_xor (a b : ByteArray) (hb : a.size ≤ b.size) (ha : a.size ≤ 1048576) (d : Nat) : ∀ (k i : Nat), i + d = a.size → d < k →
    spec_l02Xor.l0 k a b (tab (xf a b) i) (i : Int) = some (xs a b) := by
  induction d with
  | zero =>
    intro k i hi hk
    obtain ⟨k, rfl⟩ : ∃ n, k = n + 1 := ⟨k - 1, by omega⟩
    simp only [spec_l02Xor.l0]
    rw [if_neg (by omega)]
    have e : i = a.size := by omega
    rw [e, xs]
  | succ d ih =>
    intro k i hi hk
    obtain ⟨k, rfl⟩ : ∃ n, k = n + 1 := ⟨k - 1, by omega⟩
    simp only [spec_l02Xor.l0]
    rw [if_pos (by omega), if_pos (by omega), if_pos (by omega), if_pos (by rw [tab_length]; omega), w64 (by omega) (by omega)]
    have e : tab (xf a b) i ++ [Go.bits .xor .u8 (bt a (i : Int)) (bt b (i : Int))] = tab (xf a b) (i + 1) := by rw [tab_succ]; rfl
    rw [e]
    exact ih k (i + 1) (by omega) (by omega)
theorem spec_xor_f (a b : ByteArray) (hb : a.size ≤ b.size) (ha : a.size ≤ 1048576) (k : Nat) (hk : a.size < k) : spec_l02Xor.f k a b = some (xs a b) :=
  spec_xor a b hb ha a.size k 0 (by omega) hk
theorem impl_xor (a b : ByteArray) (hb : a.size ≤ b.size) (ha : a.size ≤ 1048576) (d : Nat) : ∀ (k i : Nat), i + d = a.size → d < k →
    impl_xored.l0 k a b (fill (xf a b) a.size i) (a.size : Int) (i : Int) = some (xs a b) := by
  induction d with
  | zero =>
    intro k i hi hk
    obtain ⟨k, rfl⟩ : ∃ n, k = n + 1 := ⟨k - 1, by omega⟩
    simp only [impl_xored.l0]
    rw [if_neg (by omega)]
    have e : i = a.size := by omega
    rw [e, xs, fill_all]
  | succ d ih =>
    intro k i hi hk
    obtain ⟨k, rfl⟩ : ∃ n, k = n + 1 := ⟨k - 1, by omega⟩
    simp only [impl_xored.l0]
    have t : ((i : Int)).toNat = i := by omega
    rw [if_pos (by omega), if_pos (by omega), if_pos (by omega), if_pos (by omega), if_pos (by rw [fill_length _ _ _ (by omega)]; omega), w64 (by omega) (by omega), t]
    have e : (fill (xf a b) a.size i).set i (Go.bits .xor .u8 (bt a (i : Int)) (bt b (i : Int))) = fill (xf a b) a.size (i + 1) := fill_set (xf a b) a.size i (by omega)
    rw [e]
    exact ih k (i + 1) (by omega) (by omega)
theorem impl_xor_f (a b : ByteArray) (hb : a.size ≤ b.size) (ha : a.size ≤ 1048576) (k : Nat) (hk : a.size < k) : impl_xored.f k a b = some (xs a b) := by
  unfold impl_xored.f
  have t : ((a.size : Int)).toNat = a.size := by omega
  rw [if_pos (by omega), t, if_pos (by omega)]
  simp only [Option.bind_some]
  have h := impl_xor a b hb ha a.size k 0 (by omega) hk
  rw [fill_zero] at h
  rw [List.length_replicate]
  exact h
theorem FnExactScramble : laws_FnExactScramble.Pure := by
  intro a0 s h0 hs
  refine ⟨3001, ?_⟩
  unfold laws_FnExactScramble.f
  by_cases c0 : (s.size : Int) > 1048576
  · rw [if_pos c0]
  · rw [if_neg c0]
    unfold spec_Scramble.f impl_Scramble.f
    by_cases c : a0 ≥ 0 ∧ a0 ≤ 65534
    · have v1 : spec_l00In.f a0 0 65534 = some true := by simp [spec_l00In.f, c]
      have v2 : impl_within.f a0 0 65534 = some true := by simp [impl_within.f, c]
      rw [v1, v2]
      simp only [Option.bind_some, if_true]
      by_cases d : (s.size : Int) > 256
      · rw [if_pos d, decide_eq_true d]
        simp [spec_Scramble.j0]
      · rw [if_neg d, decide_eq_false d]
        obtain ⟨r, z, e1, _⟩ := streams s.size (by omega) 3000 (a0 + 1) (by omega) (by omega) (by omega)
        obtain ⟨r2, z2, e3, e2⟩ := streams s.size (by omega) 3001 (a0 + 1) (by omega) (by omega) (by omega)
        obtain rfl : r = r2 := by
          have h := spec_l02Stream.mono (a0 + 1) (s.size : Int) 3000 r e1
          have h2 : some r = some r2 := h.symm.trans e3
          exact Option.some.inj h2
        simp only [spec_Scramble.j0, impl_scrambled.f]
        rw [w64 (by omega) (by omega), if_neg (by simp)]
        have e1' : spec_l02Stream.f 3000 (a0 + 1) (s.size : Int) = some r := e1
        rw [e1', e2]
        simp only [Option.bind_some]
        rw [spec_xor_f s r (by omega) (by omega) _ (by omega), impl_xor_f s r (by omega) (by omega) _ (by omega)]
        simp
    · have v1 : spec_l00In.f a0 0 65534 = some false := by
        unfold spec_l00In.f
        split
        · rw [decide_eq_false (by omega)]
        · rfl
      have v2 : impl_within.f a0 0 65534 = some false := by
        unfold impl_within.f
        split
        · rw [decide_eq_false (by omega)]
        · rfl
      rw [v1, v2]
      simp [spec_Scramble.j0]

end Go.Proofs.Ytloemficgiaglaa.Pure
