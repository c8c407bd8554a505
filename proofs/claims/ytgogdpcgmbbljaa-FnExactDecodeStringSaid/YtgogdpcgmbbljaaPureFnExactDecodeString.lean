/- The pure statement of FnExactDecodeString holds: the program's DecodeString and the reference's answer the same for every string. Condition: the row's own bound on the size. -/
import Derived.Test.YtgogdpcgmbbljaaPFnExactDecodeStringx2
import Derived.Test.YtgogdpcgmbbljaaLem
namespace Go.Proofs.Ytgogdpcgmbbljaa.Pure
open Go.RowKit Go.Proofs.Ytgogdpcgmbbljaa.PFnExactDecodeString Go.Proofs.YtgogdpcgmbbljaaW.PrintWords Go.Proofs.YtgogdpcgmbbljaaW.PrintLast

open Go.Proofs.Ytgogdpcgmbbljaa.Lem
theorem enc_small (d : Nat) : ∀ (k : Nat) (x : Int) (l : List Int), 0 ≤ x → x < 128 ^ (d + 1) → l.length + d < 1000 → d < k →
    ∃ r : ByteArray, spec_EncodeUvarint.l0 k x l = some r ∧ r.size ≤ l.length + d + 1 := by
  induction d with
  | zero =>
    intro k x l h0 h1 hl hk
    obtain ⟨k, rfl⟩ : ∃ m, k = m + 1 := ⟨k - 1, by omega⟩
    refine ⟨strOfNums (l ++ [x % 256]), ?_, ?_⟩
    · rw [spec_EncodeUvarint.l0, if_neg (by omega), if_pos (by omega)]
    · rw [strOfNums_size]
      simp
  | succ d ih =>
    intro k x l h0 h1 hl hk
    obtain ⟨k, rfl⟩ : ∃ m, k = m + 1 := ⟨k - 1, by omega⟩
    by_cases hx : x > 127
    · have h1' : x < 128 * 128 ^ (d + 1) := by
        have : (128 : Int) ^ (d + 1 + 1) = 128 * 128 ^ (d + 1) := by rw [Int.pow_succ, Int.mul_comm]
        omega
      have h2 : x / 128 < 128 ^ (d + 1) := Int.ediv_lt_of_lt_mul (by decide) (by rw [Int.mul_comm]; exact h1')
      obtain ⟨r, e1, e3⟩ := ih k (x / 128) (l ++ [(Go.bits .or .i64 (Go.bits .and .i64 x 127) 128) % 256]) (by omega) h2 (by simp; omega) (by omega)
      refine ⟨r, ?_, by simp at e3; omega⟩
      rw [spec_EncodeUvarint.l0, if_pos hx, if_pos (by omega)]
      exact e1
    · refine ⟨strOfNums (l ++ [x % 256]), ?_, ?_⟩
      · rw [spec_EncodeUvarint.l0, if_neg hx, if_pos (by omega)]
      · rw [strOfNums_size, List.length_append]
        show l.length + 1 ≤ _
        omega
/-- The number that i leading bytes and a rest X make. -/
def H (s : ByteArray) : Nat → Int → Int
  | 0, X => X
  | i + 1, X => H s i (bt s (i : Int) % 128 + 128 * X)
theorem H_pos (s : ByteArray) (i : Nat) : ∀ X : Int, 0 ≤ X → 0 ≤ H s i X := by
  induction i with
  | zero => intro X h; exact h
  | succ i ih =>
    intro X h
    have := bt_range s (i : Int)
    exact ih _ (by omega)
theorem enc_H (s : ByteArray) (i : Nat) (hi : i < 100) (hb : ∀ j : Nat, j < i → 128 ≤ bt s (j : Int)) : ∀ (k : Nat) (X : Int), 1 ≤ X →
    spec_EncodeUvarint.l0 (k + i) (H s i X) [] = spec_EncodeUvarint.l0 k X (tab (fun j => bt s (j : Int)) i) := by
  induction i with
  | zero => intro k X hX; rfl
  | succ i ih =>
    intro k X hX
    have hr := bt_range s (i : Int)
    have h128 := hb i (by omega)
    have e := ih (by omega) (fun j hj => hb j (by omega)) (k + 1) (bt s (i : Int) % 128 + 128 * X) (by omega)
    have hk : k + 1 + i = k + (i + 1) := by omega
    rw [hk] at e
    have e2 : H s (i + 1) X = H s i (bt s (i : Int) % 128 + 128 * X) := rfl
    rw [e2, e, spec_EncodeUvarint.l0, if_pos (by omega), if_pos (by rw [tab_length]; omega), byte_same, or128_u8 _ (by omega) (by omega), tab_succ]
    have d1 : (bt s (i : Int) % 128 + 128 * X) / 128 = X := by omega
    have d2 : (bt s (i : Int) % 128 + 128 * X) % 256 % 128 + 128 = bt s (i : Int) := by omega
    rw [d1, d2]
theorem pow128 (i : Nat) : (2 : Int) ^ (7 * (i + 1)) = 128 * 2 ^ (7 * i) := by
  rw [show 7 * (i + 1) = 7 * i + 7 by omega, Int.pow_add, Int.mul_comm]
  rfl
theorem pow_eq (i : Nat) : (2 : Int) ^ (7 * i) = 128 ^ i := by
  rw [Int.pow_mul]
  rfl
theorem shift_in (c : Int) (i : Nat) (hi : i < 9) (c0 : 0 ≤ c) (c1 : c < 128) : shl .i64 c (7 * (i : Int)) = c * 2 ^ (7 * i) ∧ c * 2 ^ (7 * i) < 9223372036854775808 ∧ 0 ≤ c * 2 ^ (7 * i) := by
  have hp : (2 : Int) ^ (7 * i) ≤ 2 ^ 56 ∧ 1 ≤ (2 : Int) ^ (7 * i) := by
    have : i = 0 ∨ i = 1 ∨ i = 2 ∨ i = 3 ∨ i = 4 ∨ i = 5 ∨ i = 6 ∨ i = 7 ∨ i = 8 := by omega
    rcases this with rfl | rfl | rfl | rfl | rfl | rfl | rfl | rfl | rfl <;> decide
  have h0 : 0 ≤ c * 2 ^ (7 * i) := Int.mul_nonneg c0 (by omega)
  have h1 : c * 2 ^ (7 * i) ≤ 127 * 2 ^ 56 := by
    have a := Int.mul_le_mul (show c ≤ 127 by omega) hp.1 (by omega) (by decide)
    exact a
  have e : min (7 * (i : Int)).toNat IntKind.i64.bits = 7 * i := by
    have t : (7 * (i : Int)).toNat = 7 * i := by omega
    rw [t]
    exact Nat.min_eq_left (by show 7 * i ≤ 64; omega)
  refine ⟨?_, by omega, h0⟩
  unfold shl
  rw [e, IntKind.wrap_i64]
  omega
theorem take_str (s : ByteArray) (n : Nat) (hn : n ≤ s.size) : strOfNums (tab (fun j => bt s (j : Int)) n) = s.extract 0 n := by
  have hs : (s.extract 0 n).size = n := by rw [ByteArray.size_extract]; omega
  apply bt_ext
  · rw [strOfNums_size, tab_length, hs]
  · intro j hj
    rw [strOfNums_size, tab_length] at hj
    have hr := bt_range s (j : Int)
    have t : ((j : Int)).toNat = j := by omega
    have e := bt_str (fun j => bt s (j : Int)) n (j : Int) (by omega) (by omega) (by simp only [t]; omega)
    rw [e]
    simp only [t]
    unfold bt
    rw [dif_pos (by rw [t]; omega), dif_pos (by rw [t, hs]; exact hj)]
    simp only [t]
    rw [ByteArray.getElem_extract]
    simp
def Good (s : ByteArray) (r : Int × Int × Bool) : Prop := r.2.2 = true → 0 ≤ r.1 ∧ r.1 ≤ 9223372036854775807 ∧ 1 ≤ r.2.1 ∧ r.2.1 ≤ (s.size : Int)
theorem dec_both (s : ByteArray) (d : Nat) : ∀ (k i : Nat) (n : Int), i + d = 9 → 2 * d + 30 < k → (∀ j : Nat, j < i → 128 ≤ bt s (j : Int)) →
    0 ≤ n → n < 2 ^ (7 * i) → (∀ X, n + 2 ^ (7 * i) * X = H s i X) →
    ∃ r, spec_DecodeUvarint.l0 k s n (i : Int) = some r ∧ impl_DecodeUvarint.l0 k s n (i : Int) = some r ∧ Good s r := by
  induction d with
  | zero =>
    intro k i n hi hk hb n0 n1 hH
    obtain ⟨k, rfl⟩ : ∃ m, k = (m + 1) + 1 := ⟨k - 2, by omega⟩
    have c9 : decide ((i : Int) < 9) = false := decide_eq_false (by omega)
    refine ⟨(0, 0, false), ?_, ?_, fun h => by cases h⟩
    · rw [spec_DecodeUvarint.l0, c9, ite_self, spec_DecodeUvarint.j1, if_neg (by simp)]
    · rw [impl_DecodeUvarint.l0, c9, ite_self, impl_DecodeUvarint.j1, if_neg (by simp)]
  | succ d ih =>
    intro k i n hi hk hb n0 n1 hH
    obtain ⟨k, rfl⟩ : ∃ m, k = (m + 1) + 1 := ⟨k - 2, by omega⟩
    by_cases hlt : (i : Int) < (s.size : Int)
    · have c9 : decide ((i : Int) < 9) = true := decide_eq_true (by omega)
      have hr := bt_range s (i : Int)
      have c1 : (0 : Int) ≤ (i : Int) := by omega
      have c7 : (0 : Int) ≤ 7 * (i : Int) := by omega
      have w1 : wrap64 ((i : Int) + 1) = ((i + 1 : Nat) : Int) := by rw [w64 (by omega) (by omega)]; rfl
      have w7 : wrap64 (7 * (i : Int)) = 7 * (i : Int) := w64 (by omega) (by omega)
      have u7 : IntKind.u64.wrap (7 * (i : Int)) = 7 * (i : Int) := u64 (by omega) (by omega)
      have a7 : Go.bits .and .u8 (bt s (i : Int)) 127 = bt s (i : Int) % 128 := bits_mask .u8 8 (by decide) wraps_u8 7 (by decide) _ hr.1 (by omega)
      have wa : wrap64 (bt s (i : Int) % 128) = bt s (i : Int) % 128 := w64 (by omega) (by omega)
      obtain ⟨s1, s2, s3⟩ := shift_in (bt s (i : Int) % 128) i (by omega) (by omega) (by omega)
      have p63 : (2 : Int) ^ (7 * i) ≤ 9223372036854775808 := by
        have h1 := (shift_in 1 i (by omega) (by decide) (by decide)).2.1
        omega
      have o1 : Go.bits .or .i64 n (bt s (i : Int) % 128 * 2 ^ (7 * i)) = n + bt s (i : Int) % 128 * 2 ^ (7 * i) :=
        or_low .i64 63 (by decide) i64_id (7 * i) n _ n0 n1 (by omega) s3 (Int.mul_emod_left _ _) (by omega)
      have hn' : n + bt s (i : Int) % 128 * 2 ^ (7 * i) = H s i (bt s (i : Int) % 128) := by rw [← hH, Int.mul_comm]
      have hmul : bt s (i : Int) % 128 * 2 ^ (7 * i) ≤ 127 * 2 ^ (7 * i) := Int.mul_le_mul_of_nonneg_right (by omega) (by omega)
      have hlt' : n + bt s (i : Int) % 128 * 2 ^ (7 * i) < 2 ^ (7 * (i + 1)) := by rw [pow128]; omega
      rw [spec_DecodeUvarint.l0, impl_DecodeUvarint.l0, c9, if_pos hlt, if_pos hlt, spec_DecodeUvarint.j1, impl_DecodeUvarint.j1, if_pos rfl, if_pos rfl, if_pos c1, if_pos c1, if_pos hlt, if_pos hlt, w7, u7, if_pos c7, if_pos c7, a7, wa, s1, o1, w1]
      by_cases hb8 : bt s (i : Int) < 128
      · rw [if_pos hb8, if_pos hb8]
        have hmod : bt s (i : Int) % 128 = bt s (i : Int) := by omega
        by_cases hz : 1 ≤ bt s (i : Int) ∨ i = 0
        · have e : spec_EncodeUvarint.f k (n + bt s (i : Int) % 128 * 2 ^ (7 * i)) = some (s.extract 0 (i + 1)) := by
            unfold spec_EncodeUvarint.f
            rw [if_neg (by omega), hn', hmod, ← take_str s (i + 1) (by omega), tab_succ]
            obtain ⟨m, rfl⟩ : ∃ m, k = (m + 1) + i := ⟨k - 1 - i, by omega⟩
            have hm : bt s (i : Int) % 256 = bt s (i : Int) := by omega
            rcases hz with hz | rfl
            · rw [enc_H s i (by omega) hb (m + 1) _ hz, spec_EncodeUvarint.l0, if_neg (by omega), if_pos (by rw [tab_length]; omega), hm]
            · show spec_EncodeUvarint.l0 (m + 1) (bt s ((0 : Nat) : Int)) [] = _
              rw [spec_EncodeUvarint.l0, if_neg (by omega), if_pos (by simp), hm]
              rfl
          refine ⟨(n + bt s (i : Int) % 128 * 2 ^ (7 * i), ((i + 1 : Nat) : Int), true), ?_, ?_, fun _ => ⟨?_, ?_, ?_, ?_⟩⟩
          · rw [e]
            simp only [Option.bind_some]
            have t : (((i + 1 : Nat) : Int)).toNat = i + 1 := by omega
            rw [if_pos (by omega), if_pos (by omega), t, if_pos rfl]
          · by_cases hi0 : (i : Int) > 0
            · rw [if_pos hi0, if_neg (by omega)]
            · rw [if_neg hi0]
          · exact Int.add_nonneg n0 s3
          · have p9 : (2 : Int) ^ (7 * (i + 1)) ≤ 9223372036854775808 := by
              have h1 := (shift_in 64 i (by omega) (by decide) (by decide)).2.1
              rw [pow128]
              have hp := p63
              have : i = 0 ∨ i = 1 ∨ i = 2 ∨ i = 3 ∨ i = 4 ∨ i = 5 ∨ i = 6 ∨ i = 7 ∨ i = 8 := by omega
              rcases this with rfl | rfl | rfl | rfl | rfl | rfl | rfl | rfl | rfl <;> decide
            show n + bt s (i : Int) % 128 * 2 ^ (7 * i) ≤ 9223372036854775807
            omega
          · show (1 : Int) ≤ ((i + 1 : Nat) : Int)
            omega
          · show ((i + 1 : Nat) : Int) ≤ (s.size : Int)
            omega
        · have hi0 : 0 < i := by omega
          have hb0 : bt s (i : Int) = 0 := by omega
          obtain ⟨q, hq⟩ : ∃ q, i = q + 1 := ⟨i - 1, by omega⟩
          have hn2 : n + bt s (i : Int) % 128 * 2 ^ (7 * i) = n := by rw [hb0]; simp
          obtain ⟨r, e, er⟩ := enc_small q k n [] n0 (by rw [← pow_eq, ← hq]; exact n1) (by simp; omega) (by omega)
          refine ⟨(0, 0, false), ?_, ?_, fun h => by cases h⟩
          · rw [hn2]
            have e' : spec_EncodeUvarint.f k n = some r := by
              unfold spec_EncodeUvarint.f
              rw [if_neg (by omega)]
              exact e
            rw [e']
            simp only [Option.bind_some]
            have t : (((i + 1 : Nat) : Int)).toNat = i + 1 := by omega
            rw [if_pos (by omega), if_pos (by omega), t, if_neg]
            intro h
            rw [ByteArray.toList_eq, ByteArray.toList_eq] at h
            have h2 := congrArg List.length h
            rw [data_length, data_length, ByteArray.size_extract] at h2
            simp at er
            omega
          · rw [if_pos (by omega), if_pos hb0]
      · rw [if_neg hb8, if_neg hb8]
        refine ih k (i + 1) _ (by omega) (by omega) ?_ (Int.add_nonneg n0 s3) hlt' ?_
        · intro j hj
          by_cases h : j = i
          · rw [h]; omega
          · exact hb j (by omega)
        · intro X
          have e : H s (i + 1) X = H s i (bt s (i : Int) % 128 + 128 * X) := rfl
          rw [e, ← hH, pow128, Int.mul_add, Int.add_assoc]
          congr 1
          rw [Int.mul_comm (bt s (i : Int) % 128)]
          congr 1
          rw [← Int.mul_assoc, Int.mul_comm (2 ^ (7 * i)) 128]
    · refine ⟨(0, 0, false), ?_, ?_, fun h => by cases h⟩
      · rw [spec_DecodeUvarint.l0, if_neg hlt, spec_DecodeUvarint.j1, if_neg (by simp)]
      · rw [impl_DecodeUvarint.l0, if_neg hlt, impl_DecodeUvarint.j1, if_neg (by simp)]
theorem dec_same (s : ByteArray) : ∃ r, spec_DecodeUvarint.f 60 s = some r ∧ impl_DecodeUvarint.f 60 s = some r ∧ Good s r :=
  dec_both s 9 60 0 0 (by omega) (by omega) (fun j hj => by omega) (by decide) (by decide) (fun X => by simp [H])
theorem FnExactDecodeString : laws_FnExactDecodeString.Pure := by
  intro s hs
  refine ⟨60, ?_⟩
  unfold laws_FnExactDecodeString.f
  by_cases c0 : (s.size : Int) > 1048576
  · rw [if_pos c0]
  · rw [if_neg c0]
    obtain ⟨r, e1, e2, hg⟩ := dec_same s
    obtain ⟨n, u, ok⟩ := r
    unfold spec_DecodeString.f impl_DecodeString.f
    rw [e1, e2]
    simp only [Option.bind_some]
    cases ok with
    | false => simp
    | true =>
      obtain ⟨g1, g2, g3, g4⟩ := hg rfl
      simp only at g1 g2 g3 g4
      rw [if_pos rfl, w64 (by omega) (by omega)]
      by_cases c : n > (s.size : Int) - u
      · rw [if_pos c]
        simp
      · rw [if_neg c, w64 (by omega) (by omega), if_pos (by omega), if_pos (by omega), if_pos (by omega)]
        simp

end Go.Proofs.Ytgogdpcgmbbljaa.Pure
