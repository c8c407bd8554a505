/- The pure statement of FnExactEncodeString holds: the program's EncodeString and the reference's answer the same for every string. Condition: the row's own bound on the string's size. -/
import Derived.Test.YtgogdpcgmbbljaaPFnExactEncodeStringx1
import Derived.Laws.BitsAllLaws
import Derived.Laws.Bits128
import Derived.OpenShut
namespace Go.Proofs.Ytgogdpcgmbbljaa.Pure
open Go.RowKit Go.Proofs.Ytgogdpcgmbbljaa.PFnExactEncodeString Go.Proofs.YtgogdpcgmbbljaaW.PrintWords Go.Proofs.YtgogdpcgmbbljaaW.PrintLast

theorem wf_i64 {n : Int} (h0 : -9223372036854775808 ≤ n) (h1 : n ≤ 9223372036854775807) : (Lit.int .i64 n).wf = true := by
  have a : IntKind.i64.min = -9223372036854775808 := by decide
  have b : IntKind.i64.max = 9223372036854775807 := by decide
  simp only [Lit.wf, a, b]
  simp [h0, h1]
theorem or128_u8 (y : Int) (h0 : 0 ≤ y) (h1 : y < 256) : Go.bits .or .u8 y 128 = y % 128 + 128 := by
  obtain ⟨n, rfl⟩ := Int.eq_ofNat_of_zero_le h0
  have hn : n < 256 := by omega
  have e := u8_or_nat n 128 hn (by decide)
  have e2 : ∀ m : Fin 256, (m.val ||| 128) = m.val % 128 + 128 := by decide +kernel
  have e3 := e2 ⟨n, hn⟩
  simp only at e3
  have e4 : Go.bits .or .u8 (n : Int) 128 = ((n ||| 128 : Nat) : Int) := e
  rw [e4, e3]
  omega
theorem or128_i64 (y : Int) (h0 : 0 ≤ y) (h1 : y < 128) : Go.bits .or .i64 y 128 = y + 128 := by
  obtain ⟨n, rfl⟩ := Int.eq_ofNat_of_zero_le h0
  have hn : n < 128 := by omega
  have e := (bits_nat .i64 8 (by decide) (fun m h0 h1 => by rw [IntKind.wrap_i64]; omega) n 128 (by omega) (by decide)).2
  have e2 : ∀ m : Fin 128, (m.val ||| 128) = m.val + 128 := by decide +kernel
  have e3 := e2 ⟨n, hn⟩
  simp only at e3
  have e4 : Go.bits .or .i64 (n : Int) 128 = ((n ||| 128 : Nat) : Int) := e
  rw [e4, e3]
  omega
theorem byte_same (x : Int) : (Go.bits .or .i64 (Go.bits .and .i64 x 127) 128) % 256 = Go.bits .or .u8 (x % 256) 128 := by
  rw [i64_and127, or128_i64 _ (by omega) (by omega), or128_u8 _ (by omega) (by omega)]
  omega
theorem enc_both (d : Nat) : ∀ (k : Nat) (x : Int) (l : List Int), 0 ≤ x → x < 128 ^ (d + 1) → l.length + d < 1000 → d < k →
    ∃ r : ByteArray, spec_EncodeUvarint.l0 k x l = some r ∧ impl_EncodeUvarint.l0 k x l = some r ∧ r.size ≤ l.length + d + 1 := by
  induction d with
  | zero =>
    intro k x l h0 h1 hl hk
    obtain ⟨k, rfl⟩ : ∃ m, k = m + 1 := ⟨k - 1, by omega⟩
    refine ⟨strOfNums (l ++ [x % 256]), ?_, ?_, ?_⟩
    · simp only [spec_EncodeUvarint.l0]
      rw [if_neg (by omega), if_pos (by omega)]
    · simp only [impl_EncodeUvarint.l0]
      rw [if_neg (by omega), if_pos (by omega)]
    · simp [strOfNums, ByteArray.size]
  | succ d ih =>
    intro k x l h0 h1 hl hk
    obtain ⟨k, rfl⟩ : ∃ m, k = m + 1 := ⟨k - 1, by omega⟩
    by_cases hx : x > 127
    · have h1' : x < 128 * 128 ^ (d + 1) := by
        have : (128 : Int) ^ (d + 1 + 1) = 128 * 128 ^ (d + 1) := by rw [Int.pow_succ, Int.mul_comm]
        omega
      have h2 : x / 128 < 128 ^ (d + 1) := Int.ediv_lt_of_lt_mul (by decide) (by rw [Int.mul_comm]; exact h1')
      obtain ⟨r, e1, e2, e3⟩ := ih k (x / 128) (l ++ [(Go.bits .or .i64 (Go.bits .and .i64 x 127) 128) % 256]) (by omega) h2 (by simp; omega) (by omega)
      refine ⟨r, ?_, ?_, by simp at e3; omega⟩
      · simp only [spec_EncodeUvarint.l0]
        rw [if_pos hx, if_pos (by omega)]
        exact e1
      · simp only [impl_EncodeUvarint.l0]
        rw [if_pos (by omega), if_pos (by omega), ← byte_same x]
        exact e2
    · refine ⟨strOfNums (l ++ [x % 256]), ?_, ?_, ?_⟩
      · simp only [spec_EncodeUvarint.l0]
        rw [if_neg hx, if_pos (by omega)]
      · simp only [impl_EncodeUvarint.l0]
        rw [if_neg (by omega), if_pos (by omega)]
      · simp [strOfNums, ByteArray.size]
theorem enc_same (x : Int) (h : (Lit.int .i64 x).wf = true) : ∃ r, spec_EncodeUvarint.f 20 x = some r ∧ impl_EncodeUvarint.f 20 x = some r ∧ r.size ≤ 20 := by
  have hb := bounds_i64 h
  unfold spec_EncodeUvarint.f impl_EncodeUvarint.f
  by_cases h0 : x < 0
  · rw [if_pos h0, if_pos h0]
    exact ⟨_, rfl, rfl, by decide⟩
  · rw [if_neg h0, if_neg h0]
    obtain ⟨r, e1, e2, e3⟩ := enc_both 9 20 x [] (by omega) (by omega) (by simp) (by omega)
    exact ⟨r, e1, e2, by simp at e3; omega⟩

theorem FnExactEncodeString : laws_FnExactEncodeString.Pure := by
  intro s hs
  obtain ⟨r, e1, e2, e3⟩ := enc_same (s.size : Int) (wf_i64 (by omega) (by omega))
  refine ⟨20, ?_⟩
  unfold laws_FnExactEncodeString.f
  by_cases h1 : (s.size : Int) > 1048576
  · rw [if_pos h1]
  · rw [if_neg h1]
    unfold spec_EncodeString.f impl_EncodeString.f
    rw [e1, e2]
    simp only [Option.bind_some]
    rw [if_pos (by omega)]
    simp

end Go.Proofs.Ytgogdpcgmbbljaa.Pure
