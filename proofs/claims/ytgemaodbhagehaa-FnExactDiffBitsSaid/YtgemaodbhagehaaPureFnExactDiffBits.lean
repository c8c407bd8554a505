/- The pure statement of FnExactDiffBits holds: the program's DiffBits and the reference's answer the same for all strings, in memory of their own. Condition: the row's own bounds on the sizes. -/
import Derived.Test.YtgemaodbhagehaaQFnExactDiffBitsx2
import Derived.Test.YtgemaodbhagehaaGen
namespace Go.Proofs.Ytgemaodbhagehaa.Pure
open Go.RowKit Go.Proofs.Ytgemaodbhagehaa.QFnExactDiffBits Go.Proofs.YtgemaodbhagehaaW.PrintWords Go.Proofs.YtgemaodbhagehaaW.PrintLast

open Go.Proofs.Ytgemaodbhagehaa.Lem Go.Proofs.Ytgemaodbhagehaa.Gen
theorem laws_eqInt64S_l (l : List Int) (hl : l.length ≤ 1048576) (d : Nat) : ∀ (k i : Nat), i + d = l.length → d < k → laws_eqInt64S.l0 k l l (i : Int) = some true := by
  induction d with
  | zero =>
    intro k i hi hk
    obtain ⟨k, rfl⟩ : ∃ n, k = n + 1 := ⟨k - 1, by omega⟩
    rw [laws_eqInt64S.l0, if_neg (by omega)]
  | succ d ih =>
    intro k i hi hk
    obtain ⟨k, rfl⟩ : ∃ n, k = n + 1 := ⟨k - 1, by omega⟩
    rw [laws_eqInt64S.l0, if_pos (by omega), if_pos (by omega), if_pos (by omega)]
    rw [if_pos rfl]
    rw [w64 (by omega) (by omega)]
    exact ih k (i + 1) (by omega) (by omega)
theorem laws_eqInt64S_f (l : List Int) (hl : l.length ≤ 1048576) (k : Nat) (hk : l.length < k) : laws_eqInt64S.f k l l = some true := by
  unfold laws_eqInt64S.f
  rw [if_pos rfl]
  exact laws_eqInt64S_l l hl l.length k 0 (by omega) hk
def mkd (l : List Int) (i : Nat) : List Int := tabG (fun j : Nat => (j : Int) + 1) i ++ l.drop i
theorem mkd_length (l : List Int) (i : Nat) (h : i ≤ l.length) : (mkd l i).length = l.length := by simp [mkd, tabG_length]; omega
theorem mkd_set (l : List Int) (i : Nat) (h : i < l.length) : (mkd l i).set i ((i : Int) + 1) = mkd l (i + 1) := by
  unfold mkd
  rw [List.set_append_right _ _ (by rw [tabG_length]; exact Nat.le_refl _), tabG_length, Nat.sub_self, List.drop_eq_getElem_cons h, tabG_succ, List.set_cons_zero, List.append_assoc]
  rfl
theorem laws_markInt64S_l (l : List Int) (hl : l.length ≤ 1048576) (d : Nat) : ∀ (k i : Nat), i + d = l.length → d < k → laws_markInt64S.l0 k (mkd l i) ((i : Int) + 1) (i : Int) = some ((l.length : Int) + 1, tabG (fun j : Nat => (j : Int) + 1) l.length) := by
  induction d with
  | zero =>
    intro k i hi hk
    obtain ⟨k, rfl⟩ : ∃ n, k = n + 1 := ⟨k - 1, by omega⟩
    obtain rfl : i = l.length := by omega
    rw [laws_markInt64S.l0, if_neg (by rw [mkd_length _ _ (Nat.le_refl _)]; omega)]
    simp [mkd]
  | succ d ih =>
    intro k i hi hk
    obtain ⟨k, rfl⟩ : ∃ n, k = n + 1 := ⟨k - 1, by omega⟩
    have t : ((i : Int)).toNat = i := by omega
    rw [laws_markInt64S.l0, if_pos (by rw [mkd_length _ _ (by omega)]; omega), if_pos (by omega), t, mkd_set _ _ (by omega), w64 (by omega) (by omega), w64 (by omega) (by omega)]
    exact ih k (i + 1) (by omega) (by omega)
theorem laws_heldInt64S_l (n : Nat) (hl : n ≤ 1048576) (d : Nat) : ∀ (k i : Nat), i + d = n → d < k → laws_heldInt64S.l0 k (tabG (fun j : Nat => (j : Int) + 1) n) ((i : Int) + 1) (i : Int) = some ((n : Int) + 1) := by
  induction d with
  | zero =>
    intro k i hi hk
    obtain ⟨k, rfl⟩ : ∃ n, k = n + 1 := ⟨k - 1, by omega⟩
    obtain rfl : i = n := by omega
    rw [laws_heldInt64S.l0, if_neg (by rw [tabG_length]; omega)]
  | succ d ih =>
    intro k i hi hk
    obtain ⟨k, rfl⟩ : ∃ n, k = n + 1 := ⟨k - 1, by omega⟩
    have t : ((i : Int)).toNat = i := by omega
    have e : rd (tabG (fun j : Nat => (j : Int) + 1) n) (i : Int) = (i : Int) + 1 := by
      have hi : i < n := by omega
      simp [rd, tabG, List.getD_eq_getElem?_getD, hi]
    rw [laws_heldInt64S.l0, if_pos (by rw [tabG_length]; omega), if_pos (by omega), e, if_pos rfl, w64 (by omega) (by omega), w64 (by omega) (by omega)]
    exact ih k (i + 1) (by omega) (by omega)
theorem laws_markInt64S_f (l : List Int) (hl : l.length ≤ 1048576) (k : Nat) (hk : l.length < k) : laws_markInt64S.f k l 1 = some ((l.length : Int) + 1, tabG (fun j : Nat => (j : Int) + 1) l.length) := laws_markInt64S_l l hl l.length k 0 (by omega) hk
theorem laws_heldInt64S_f (n : Nat) (hl : n ≤ 1048576) (k : Nat) (hk : n < k) : laws_heldInt64S.f k (tabG (fun j : Nat => (j : Int) + 1) n) 1 = some ((n : Int) + 1) := laws_heldInt64S_l n hl n k 0 (by omega) hk
theorem d_q (i m : Nat) (hi : i < 256) (hm : m < 8) : wrap64 (Int.tdiv ((8 * i + m : Nat) : Int) 8) = (i : Int) := by
  rw [Int.tdiv_eq_ediv_of_nonneg (by omega), w64 (by omega) (by omega)]
  omega
theorem d_r (i m : Nat) (hm : m < 8) (hi : i < 256) : IntKind.u64.wrap (Int.tmod ((8 * i + m : Nat) : Int) 8) = (m : Int) := by
  rw [Int.tmod_eq_emod_of_nonneg (by omega), u64 (by omega) (by omega)]
  omega
theorem d_8 (n : Nat) (h : n ≤ 256) : wrap64 (8 * (n : Int)) = 8 * (n : Int) := w64 (by omega) (by omega)
theorem d_1 (i m : Nat) (hi : i < 256) (hm : m < 8) : wrap64 (((8 * i + m : Nat) : Int) + 1) = ((8 * i + (m + 1) : Nat) : Int) := by
  rw [w64 (by omega) (by omega)]
  omega
theorem d_2 (i m : Nat) (hi : i < 256) (hm : m < 8) : wrap64 ((wrap64 (8 * (i : Int))) + (m : Int)) = ((8 * i + m : Nat) : Int) := by
  rw [w64 (n := 8 * (i : Int)) (by omega) (by omega), w64 (by omega) (by omega)]
  omega
theorem d_3 (m : Nat) (hm : m < 8) : wrap64 ((m : Int) + 1) = ((m + 1 : Nat) : Int) := by
  rw [w64 (by omega) (by omega)]
  omega
theorem diff_inner (a b : ByteArray) (hs : a.size = b.size) (h2 : a.size ≤ 256) (i : Nat) (hi : i < a.size) (d : Nat) : ∀ (m : Nat) (L : List Int), m + d = 8 → L.length ≤ 8 * i + m →
    ∃ L' : List Int, L'.length ≤ 8 * (i + 1) ∧ (∀ k, spec_DiffBits.l0 (k + d) a b L ((8 * i + m : Nat) : Int) = spec_DiffBits.l0 k a b L' ((8 * (i + 1) : Nat) : Int)) ∧
      (∀ k, impl_DiffBits.l1 (k + d + 1) a b L (i : Int) (a.size : Int) (i : Int) (m : Int) = impl_DiffBits.l0 k a b L' (a.size : Int) ((i + 1 : Nat) : Int)) := by
  induction d with
  | zero =>
    intro m L hm hL
    obtain rfl : m = 8 := by omega
    refine ⟨L, by omega, fun k => ?_, fun k => ?_⟩
    · rw [show 8 * i + 8 = 8 * (i + 1) by omega]
      rfl
    · rw [impl_DiffBits.l1, if_neg (by omega), w64 (by omega) (by omega)]
      rfl
  | succ d ih =>
    intro m L hm hL
    have hi6 : i < 256 := by omega
    have hm8 : m < 8 := by omega
    by_cases c : (Go.bits .and .u8 (shr .u8 (Go.bits .xor .u8 (bt a (i : Int)) (bt b (i : Int))) (m : Int)) 1) = 1
    · obtain ⟨L', h0, h1, h3⟩ := ih (m + 1) (L ++ [((8 * i + m : Nat) : Int)]) (by omega) (by simp; omega)
      refine ⟨L', h0, fun k => ?_, fun k => ?_⟩
      · rw [show k + (d + 1) = (k + d) + 1 by omega, spec_DiffBits.l0, d_q i m hi6 hm8, d_r i m hm8 hi6, d_8 a.size h2, if_pos (by omega), if_pos (by omega), if_pos (by omega), if_pos (by omega), if_pos (by omega), if_pos c, if_pos (by omega), d_1 i m hi6 hm8]
        exact h1 k
      · rw [show k + (d + 1) + 1 = (k + d + 1) + 1 by omega, impl_DiffBits.l1, if_pos (by omega), if_pos (by omega), if_pos (by omega), if_pos (by omega), if_pos (by omega), if_pos c, if_pos (by omega), d_2 i m hi6 hm8, d_3 m hm8]
        exact h3 k
    · obtain ⟨L', h0, h1, h3⟩ := ih (m + 1) L (by omega) (by omega)
      refine ⟨L', h0, fun k => ?_, fun k => ?_⟩
      · rw [show k + (d + 1) = (k + d) + 1 by omega, spec_DiffBits.l0, d_q i m hi6 hm8, d_r i m hm8 hi6, d_8 a.size h2, if_pos (by omega), if_pos (by omega), if_pos (by omega), if_pos (by omega), if_pos (by omega), if_neg c, d_1 i m hi6 hm8]
        exact h1 k
      · rw [show k + (d + 1) + 1 = (k + d + 1) + 1 by omega, impl_DiffBits.l1, if_pos (by omega), if_pos (by omega), if_pos (by omega), if_pos (by omega), if_pos (by omega), if_neg c, d_3 m hm8]
        exact h3 k
theorem diff_outer (a b : ByteArray) (hs : a.size = b.size) (h2 : a.size ≤ 256) (d : Nat) : ∀ (k k' i : Nat) (L : List Int), i + d = a.size → L.length ≤ 8 * i → 8 * d < k → 10 * d < k' →
    ∃ R : List Int, R.length ≤ 2048 ∧ spec_DiffBits.l0 k a b L ((8 * i : Nat) : Int) = some R ∧ impl_DiffBits.l0 k' a b L (a.size : Int) (i : Int) = some R := by
  induction d with
  | zero =>
    intro k k' i L hi hL hk hk'
    obtain ⟨k, rfl⟩ : ∃ n, k = n + 1 := ⟨k - 1, by omega⟩
    obtain ⟨k', rfl⟩ : ∃ n, k' = n + 1 := ⟨k' - 1, by omega⟩
    refine ⟨L, by omega, ?_, ?_⟩
    · rw [spec_DiffBits.l0, w64 (by omega) (by omega), if_neg (by omega)]
    · rw [impl_DiffBits.l0, if_neg (by omega)]
  | succ d ih =>
    intro k k' i L hi hL hk hk'
    obtain ⟨k, rfl⟩ : ∃ n, k = n + 8 := ⟨k - 8, by omega⟩
    obtain ⟨k', rfl⟩ : ∃ n, k' = (n + 8 + 1) + 1 := ⟨k' - 10, by omega⟩
    obtain ⟨L', h0, h1, h3⟩ := diff_inner a b hs h2 i (by omega) 8 0 L (by omega) (by omega)
    obtain ⟨R, g0, g1, g3⟩ := ih k k' (i + 1) L' (by omega) h0 (by omega) (by omega)
    refine ⟨R, g0, (h1 k).trans g1, ?_⟩
    rw [impl_DiffBits.l0, if_pos (by omega)]
    exact (h3 k').trans g3
theorem diff_same (a b : ByteArray) (k : Nat) (hk : 2600 < k) : ∃ R : List Int, R.length ≤ 2048 ∧ spec_DiffBits.f (k + 1) a b = some R ∧ impl_DiffBits.f (k + 1) a b = some R := by
  unfold spec_DiffBits.f impl_DiffBits.f
  simp only [Option.bind_some]
  by_cases c : (a.size : Int) = (b.size : Int)
  · rw [if_pos c, if_pos c, spec_DiffBits.j0, impl_DiffBits.j0]
    by_cases e : (a.size : Int) > 256
    · rw [decide_eq_true e]
      exact ⟨[], by simp, rfl, rfl⟩
    · rw [decide_eq_false e]
      exact diff_outer a b (by omega) (by omega) a.size k k 0 [] (by omega) (by simp) (by omega) (by omega)
  · rw [if_neg c, if_neg c]
    exact ⟨[], by simp, rfl, rfl⟩
theorem FnExactDiffBits : laws_FnExactDiffBits.Pure := by
  intro a b ha hb
  refine ⟨3001, ?_⟩
  unfold laws_FnExactDiffBits.f
  by_cases c0 : (a.size : Int) > 1048576
  · rw [if_pos c0]
  · rw [if_neg c0]
    by_cases c1 : (b.size : Int) > 1048576
    · rw [if_pos c1]
    · rw [if_neg c1]
      obtain ⟨R, hR, e1, e2⟩ := diff_same a b 3000 (by omega)
      have e1' : spec_DiffBits.f 3001 a b = some R := e1
      have e2' : impl_DiffBits.f 3001 a b = some R := e2
      rw [e1', e2']
      simp only [Option.bind_some]
      rw [laws_eqInt64S_f R (by omega) 3001 (by omega)]
      simp only [Option.bind_some, if_true]
      rw [laws_markInt64S_f R (by omega) 3001 (by omega)]
      simp only [Option.bind_some]
      rw [laws_heldInt64S_f R.length (by omega) 3001 (by omega)]
      simp only [Option.bind_some]
      have n0 : ¬ (R.length : Int) + 1 < 0 := by omega
      simp [n0]

end Go.Proofs.Ytgemaodbhagehaa.Pure
