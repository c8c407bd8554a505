/- The pure statement of FnExactUpdateParity holds: the program's UpdateParity and the reference's answer the same for all strings. Condition: the row's own bounds on the sizes. -/
import Derived.Test.YtloemficgiaglaaQFnExactUpdateParityx2
import Derived.Test.YtloemficgiaglaaLem
namespace Go.Proofs.Ytloemficgiaglaa.Pure
open Go.RowKit Go.Proofs.Ytloemficgiaglaa.QFnExactUpdateParity Go.Proofs.YtloemficgiaglaaW.PrintWords Go.Proofs.YtloemficgiaglaaW.PrintLast

open Go.Proofs.Ytloemficgiaglaa.Lem
theorem spec_xor (a b : ByteArray) (hb : a.size ≤ b.size) (ha : a.size ≤ 1048576) (d : Nat) : ∀ (k i : Nat), i + d = a.size → d < k →
    spec_l02Xor.l0 k a b (tab (xf a b) i) (i : Int) = some (xs a b) := by
  induction d with
  | zero =>
    intro k i hi hk
    obtain ⟨k, rfl⟩ : ∃ n, k = n + 1 := ⟨k - 1, by omega⟩
    simp only [spec_l02Xor.l0]
    rw [if_neg (by omega)]
    have e : i = a.size := by omega
    rw [e, xs]
  | succ d ih =>
    intro k i hi hk
    obtain ⟨k, rfl⟩ : ∃ n, k = n + 1 := ⟨k - 1, by omega⟩
    simp only [spec_l02Xor.l0]
    rw [if_pos (by omega), if_pos (by omega), if_pos (by omega), if_pos (by rw [tab_length]; omega), w64 (by omega) (by omega)]
    have e : tab (xf a b) i ++ [Go.bits .xor .u8 (bt a (i : Int)) (bt b (i : Int))] = tab (xf a b) (i + 1) := by rw [tab_succ]; rfl
    rw [e]
    exact ih k (i + 1) (by omega) (by omega)
theorem spec_xor_f (a b : ByteArray) (hb : a.size ≤ b.size) (ha : a.size ≤ 1048576) (k : Nat) (hk : a.size < k) : spec_l02Xor.f k a b = some (xs a b) :=
  spec_xor a b hb ha a.size k 0 (by omega) hk
theorem impl_xor (a b : ByteArray) (hb : a.size ≤ b.size) (ha : a.size ≤ 1048576) (d : Nat) : ∀ (k i : Nat), i + d = a.size → d < k →
    impl_xored.l0 k a b (fill (xf a b) a.size i) (a.size : Int) (i : Int) = some (xs a b) := by
  induction d with
  | zero =>
    intro k i hi hk
    obtain ⟨k, rfl⟩ : ∃ n, k = n + 1 := ⟨k - 1, by omega⟩
    simp only [impl_xored.l0]
    rw [if_neg (by omega)]
    have e : i = a.size := by omega
    rw [e, xs, fill_all]
  | succ d ih =>
    intro k i hi hk
    obtain ⟨k, rfl⟩ : ∃ n, k = n + 1 := ⟨k - 1, by omega⟩
    simp only [impl_xored.l0]
    have t : ((i : Int)).toNat = i := by omega
    rw [if_pos (by omega), if_pos (by omega), if_pos (by omega), if_pos (by omega), if_pos (by rw [fill_length _ _ _ (by omega)]; omega), w64 (by omega) (by omega), t]
    have e : (fill (xf a b) a.size i).set i (Go.bits .xor .u8 (bt a (i : Int)) (bt b (i : Int))) = fill (xf a b) a.size (i + 1) := fill_set (xf a b) a.size i (by omega)
    rw [e]
    exact ih k (i + 1) (by omega) (by omega)
theorem impl_xor_f (a b : ByteArray) (hb : a.size ≤ b.size) (ha : a.size ≤ 1048576) (k : Nat) (hk : a.size < k) : impl_xored.f k a b = some (xs a b) := by
  unfold impl_xored.f
  have t : ((a.size : Int)).toNat = a.size := by omega
  rw [if_pos (by omega), t, if_pos (by omega)]
  simp only [Option.bind_some]
  have h := impl_xor a b hb ha a.size k 0 (by omega) hk
  rw [fill_zero] at h
  rw [List.length_replicate]
  exact h
theorem FnExactUpdateParity : laws_FnExactUpdateParity.Pure := by
  intro a b c ha hb hc
  refine ⟨310, ?_⟩
  unfold laws_FnExactUpdateParity.f
  by_cases c0 : (a.size : Int) > 1048576
  · rw [if_pos c0]
  · rw [if_neg c0]
    by_cases c1 : (b.size : Int) > 1048576
    · rw [if_pos c1]
    · rw [if_neg c1]
      by_cases c2 : (c.size : Int) > 1048576
      · rw [if_pos c2]
      · rw [if_neg c2]
        have r0 : rdOf ByteArray.empty [a, b, c] 0 = a := rfl
        have r1 : rdOf ByteArray.empty [a, b, c] 1 = b := rfl
        have r2 : rdOf ByteArray.empty [a, b, c] 2 = c := rfl
        have s1 : wrap64 (0 + 1) = 1 := by unfold wrap64; omega
        have s2 : wrap64 (1 + 1) = 2 := by unfold wrap64; omega
        have s3 : wrap64 (2 + 1) = 3 := by unfold wrap64; omega
        have o1 : wrap64 1 = 1 := s1
        have o2 : wrap64 2 = 2 := s2
        have o3 : wrap64 3 = 3 := s3
        by_cases g : (a.size : Int) ≤ 256 ∧ (a.size : Int) = (b.size : Int) ∧ (a.size : Int) = (c.size : Int)
        · obtain ⟨g0, g1, g2⟩ := g
          have u0 : ∀ m, spec_l04Units.f (m + 6) [a, b, c] = some true := by
            intro m
            have g3 : ¬ (256 : Int) < (a.size : Int) := by omega
            simp [spec_l04Units.f, spec_l04Units.j0, spec_l04Units.l0, r0, r1, r2, o1, o2, o3, ← g1, ← g2, g3]
          have u : spec_l04Units.f 310 [a, b, c] = some true := u0 304
          have q0 : ∀ m, 300 < m → spec_l04Sum.f (m + 4) [a, b, c] = some (xs (xs (xs (strOfNums (List.replicate a.size 0)) a) b) c) := by
            have z0 : (strOfNums (List.replicate a.size 0)).size = a.size := by rw [strOfNums_size, List.length_replicate]
            intro m hm
            unfold spec_l04Sum.f
            have t : ((a.size : Int)).toNat = a.size := by omega
            rw [r0, if_pos (by simp), if_pos (by omega), t, if_pos (by omega)]
            simp only [spec_l04Sum.l0]
            simp only [List.length_cons, List.length_nil, s1, s2, s3, r0, r1, r2]
            rw [if_pos (by omega), if_pos (by omega), spec_xor_f _ a (by omega) (by omega) _ (by omega)]
            simp only [Option.bind_some]
            rw [if_pos (by omega), if_pos (by omega), spec_xor_f _ b (by rw [xs_size]; omega) (by rw [xs_size]; omega) _ (by rw [xs_size]; omega)]
            simp only [Option.bind_some]
            rw [if_pos (by omega), if_pos (by omega), spec_xor_f _ c (by rw [xs_size, xs_size]; omega) (by rw [xs_size, xs_size]; omega) _ (by rw [xs_size, xs_size]; omega)]
            simp only [Option.bind_some]
            rw [if_neg (by omega)]
          have q := q0 306 (by omega)
          have v : impl_UpdateParity.f 310 a b c = some (xs a (xs b c), 0) := by
            unfold impl_UpdateParity.f
            have d : decide ((a.size : Int) > 256) = false := decide_eq_false (by omega)
            rw [if_pos g1, if_pos g2, d]
            simp only [impl_UpdateParity.j0]
            rw [if_neg (by simp), impl_xor_f b c (by omega) (by omega) _ (by omega)]
            simp only [Option.bind_some]
            rw [impl_xor_f a _ (by rw [xs_size]; omega) (by omega) _ (by omega)]
            rfl
          have e : xs (xs (xs (strOfNums (List.replicate a.size 0)) a) b) c = xs a (xs b c) := by
            have z0 : (strOfNums (List.replicate a.size 0)).size = a.size := by rw [strOfNums_size, List.length_replicate]
            apply bt_ext
            · rw [xs_size, xs_size, xs_size, xs_size, z0]
            · intro j hj
              rw [xs_size, xs_size, xs_size, z0] at hj
              rw [xs_bt _ c j (by rw [xs_size, xs_size, z0]; exact hj), xs_bt a _ j hj]
              unfold xf
              rw [xs_bt _ b j (by rw [xs_size, z0]; exact hj), xs_bt b c j (by omega)]
              unfold xf
              rw [xs_bt _ a j (by rw [z0]; exact hj)]
              unfold xf
              rw [bt_zeros, xor_zero _ (bt_range _ _), xor_assoc _ _ _ (bt_range _ _) (bt_range _ _) (bt_range _ _)]
          unfold spec_UpdateParity.f
          rw [u, v]
          simp only [Option.bind_some, if_true]
          have q2 : spec_l04Sum.f 310 [a, b, c] = _ := q
          rw [q2, e]
          simp
        · have v : impl_UpdateParity.f 310 a b c = some ((⟨#[]⟩ : ByteArray), 1) := by
            unfold impl_UpdateParity.f
            by_cases g1 : (a.size : Int) = (b.size : Int)
            · by_cases g2 : (a.size : Int) = (c.size : Int)
              · have d : decide ((a.size : Int) > 256) = true := decide_eq_true (by omega)
                rw [if_pos g1, if_pos g2, d]
                rfl
              · rw [if_pos g1, if_neg g2]
                rfl
            · rw [if_neg g1]
              rfl
          have u0 : ∀ m, spec_l04Units.f (m + 6) [a, b, c] = some false := by
            intro m
            by_cases g0 : (256 : Int) < (a.size : Int)
            · simp [spec_l04Units.f, spec_l04Units.j0, r0, g0]
            · by_cases g1 : (b.size : Int) = (a.size : Int)
              · have g2 : ¬ (c.size : Int) = (a.size : Int) := by omega
                simp [spec_l04Units.f, spec_l04Units.j0, spec_l04Units.l0, r0, r1, r2, o1, o2, g0, g1, g2]
              · simp [spec_l04Units.f, spec_l04Units.j0, spec_l04Units.l0, r0, r1, o1, g0, g1]
          have u : spec_l04Units.f 310 [a, b, c] = some false := u0 304
          unfold spec_UpdateParity.f
          rw [u, v]
          simp

end Go.Proofs.Ytloemficgiaglaa.Pure
