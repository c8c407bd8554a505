/- The pure statement of FnExactSameBadTable holds: the program's SameBadTable and the reference's answer the same for all tables. Condition: the row's own bounds. -/
import Derived.Test.YtgemaodbhagehaaQFnExactSameBadTablex4
import Derived.Test.YtgemaodbhagehaaGen
namespace Go.Proofs.Ytgemaodbhagehaa.Pure
open Go.RowKit Go.Proofs.Ytgemaodbhagehaa.QFnExactSameBadTable Go.Proofs.YtgemaodbhagehaaW.PrintWords Go.Proofs.YtgemaodbhagehaaW.PrintLast

open Go.Proofs.Ytgemaodbhagehaa.Lem Go.Proofs.Ytgemaodbhagehaa.Gen
theorem laws_toInt64S_l (l : List Int) (hl : l.length ≤ 1048576) (d : Nat) : ∀ (k i : Nat), i + d = l.length → d < k →
    laws_toInt64S.l0 k l (fillG (0 : Int) (fun j : Nat => rd l (j : Int)) l.length i) (i : Int) = some (tabG (fun j : Nat => rd l (j : Int)) l.length) := by
  induction d with
  | zero =>
    intro k i hi hk
    obtain ⟨k, rfl⟩ : ∃ n, k = n + 1 := ⟨k - 1, by omega⟩
    obtain rfl : i = l.length := by omega
    rw [laws_toInt64S.l0, if_neg (by omega), fillG_all]
  | succ d ih =>
    intro k i hi hk
    obtain ⟨k, rfl⟩ : ∃ n, k = n + 1 := ⟨k - 1, by omega⟩
    have t : ((i : Int)).toNat = i := by omega
    rw [laws_toInt64S.l0, if_pos (by omega), if_pos (by omega)]
    rw [if_pos (by rw [fillG_length _ _ _ _ (by omega)]; omega), w64 (by omega) (by omega)]
    have e := ih k (i + 1) (by omega) (by omega)
    rw [← fillG_set (0 : Int) (fun j : Nat => rd l (j : Int)) l.length i (by omega)] at e
    have e2 : ((i + 1 : Nat) : Int) = (i : Int) + 1 := by omega
    rw [e2] at e
    rw [t]
    exact e
theorem laws_toInt64S_f (l : List Int) (hl : l.length ≤ 1048576) (k : Nat) (hk : l.length < k) : laws_toInt64S.f k l = some (l) := by
  unfold laws_toInt64S.f
  have t : ((l.length : Int)).toNat = l.length := by omega
  rw [if_pos (by omega), t, if_pos (by omega), ← fillG_zero (0 : Int) (fun j : Nat => rd l (j : Int))]
  have e := laws_toInt64S_l l hl l.length k 0 (by omega) hk
  have e0 : ((0 : Nat) : Int) = 0 := rfl
  rw [e0] at e
  rw [e, show tabG (fun j : Nat => rd l (j : Int)) l.length = l from tabG_id l 0]
theorem laws_eqInt64S_l (l : List Int) (hl : l.length ≤ 1048576) (d : Nat) : ∀ (k i : Nat), i + d = l.length → d < k → laws_eqInt64S.l0 k l l (i : Int) = some true := by
  induction d with
  | zero =>
    intro k i hi hk
    obtain ⟨k, rfl⟩ : ∃ n, k = n + 1 := ⟨k - 1, by omega⟩
    rw [laws_eqInt64S.l0, if_neg (by omega)]
  | succ d ih =>
    intro k i hi hk
    obtain ⟨k, rfl⟩ : ∃ n, k = n + 1 := ⟨k - 1, by omega⟩
    rw [laws_eqInt64S.l0, if_pos (by omega), if_pos (by omega), if_pos (by omega)]
    rw [if_pos rfl]
    rw [w64 (by omega) (by omega)]
    exact ih k (i + 1) (by omega) (by omega)
theorem laws_eqInt64S_f (l : List Int) (hl : l.length ≤ 1048576) (k : Nat) (hk : l.length < k) : laws_eqInt64S.f k l l = some true := by
  unfold laws_eqInt64S.f
  rw [if_pos rfl]
  exact laws_eqInt64S_l l hl l.length k 0 (by omega) hk
/-- Two lists of one length, compared from place i on. -/
theorem same_spec (a b : List Int) (hab : a.length = b.length) (ha : a.length ≤ 1048576) (d : Nat) : ∀ (k k' i : Nat), i + d = a.length → d < k → d < k' →
    ∃ r, spec_l00Same.l0 k a b (i : Int) = some r ∧ slices_Equal_int64_int64.l0 k' a b (a.length : Int) (i : Int) = some r := by
  induction d with
  | zero =>
    intro k k' i hi hk hk'
    obtain ⟨k, rfl⟩ : ∃ n, k = n + 1 := ⟨k - 1, by omega⟩
    obtain ⟨k', rfl⟩ : ∃ n, k' = n + 1 := ⟨k' - 1, by omega⟩
    refine ⟨true, ?_, ?_⟩
    · rw [spec_l00Same.l0, if_neg (by omega)]
    · rw [slices_Equal_int64_int64.l0, if_neg (by omega)]
  | succ d ih =>
    intro k k' i hi hk hk'
    obtain ⟨k, rfl⟩ : ∃ n, k = n + 1 := ⟨k - 1, by omega⟩
    obtain ⟨k', rfl⟩ : ∃ n, k' = n + 1 := ⟨k' - 1, by omega⟩
    rw [spec_l00Same.l0, slices_Equal_int64_int64.l0, w64 (by omega) (by omega)]
    have c0 : (i : Int) < (a.length : Int) := by omega
    have c1 : (0 : Int) ≤ (i : Int) := by omega
    have c2 : (i : Int) < (b.length : Int) := by omega
    simp only [if_pos c0, if_pos c1, if_pos c2]
    by_cases e : rd a (i : Int) = rd b (i : Int)
    · simp only [if_pos e]
      exact ih k k' (i + 1) (by omega) (by omega) (by omega)
    · simp only [if_neg e]
      exact ⟨false, rfl, rfl⟩
theorem same_ints (a b : List Int) (ha : a.length ≤ 1048576) (k k' : Nat) (hk : a.length < k) (hk' : a.length < k') : ∃ r, spec_l00Same.f k a b = some r ∧ slices_Equal_int64_int64.f k' a b = some r := by
  unfold spec_l00Same.f slices_Equal_int64_int64.f
  by_cases h : (a.length : Int) = (b.length : Int)
  · rw [if_pos h, if_pos h]
    exact same_spec a b (by omega) ha a.length k k' 0 (by omega) hk hk'
  · rw [if_neg h, if_neg h]
    exact ⟨false, rfl, rfl⟩
theorem sz_ints (l : List Int) (h : l.length ≤ maxLen) (n : Int) (n0 : 0 ≤ n) (n1 : n ≤ 1048576) : ∃ m, laws_szInt64S.f l n = some m ∧ m ≤ n ∧ (0 ≤ m → m = n - l.length) := by
  simp only [maxLen] at h
  unfold laws_szInt64S.f
  rw [w64 (by omega) (by omega)]
  by_cases c : n - (l.length : Int) < 0
  · rw [if_pos c]
    exact ⟨-1, rfl, by omega, fun h => by omega⟩
  · rw [if_neg c]
    exact ⟨_, rfl, by omega, fun _ => rfl⟩
theorem sz_bt (a0 a1 a2 a3 : Int) (a4 a5 : List Int) (h4 : a4.length ≤ maxLen) (h5 : a5.length ≤ maxLen) (n : Int) (n0 : 0 ≤ n) (n1 : n ≤ 1048576) :
    ∃ m, laws_szBadTable.f a0 a1 a2 a3 a4 a5 n = some m ∧ m ≤ n ∧ (0 ≤ m → m = n - a4.length - a5.length) := by
  unfold laws_szBadTable.f
  obtain ⟨m, e1, g1, g2⟩ := sz_ints a4 h4 n n0 n1
  rw [e1]
  simp only [Option.bind_some]
  by_cases c : m < 0
  · rw [if_pos c]
    exact ⟨-1, rfl, by omega, fun h => by omega⟩
  · rw [if_neg c]
    obtain ⟨m2, e2, g3, g4⟩ := sz_ints a5 h5 m (by omega) (by omega)
    rw [e2]
    simp only [Option.bind_some]
    have g5 := g2 (by omega)
    by_cases c2 : m2 < 0
    · rw [if_pos c2]
      exact ⟨-1, rfl, by omega, fun h => by omega⟩
    · rw [if_neg c2]
      exact ⟨m2, rfl, by omega, fun h => by have := g4 h; omega⟩
theorem to_bt (a0 a1 a2 a3 : Int) (a4 a5 : List Int) (h4 : a4.length ≤ 1048576) (h5 : a5.length ≤ 1048576) (k : Nat) (hk4 : a4.length < k) (hk5 : a5.length < k) : laws_toBadTable.f k a0 a1 a2 a3 a4 a5 = some (a0, a1, a2, a3, a4, a5) := by
  unfold laws_toBadTable.f laws_toGeometry.f
  rw [laws_toInt64S_f a4 h4 k hk4, laws_toInt64S_f a5 h5 k hk5]
  rfl
theorem eq_bt (a0 a1 a2 a3 : Int) (a4 a5 : List Int) (h4 : a4.length ≤ 1048576) (h5 : a5.length ≤ 1048576) (k : Nat) (hk4 : a4.length < k) (hk5 : a5.length < k) : laws_eqBadTable.f k a0 a1 a2 a3 a4 a5 a0 a1 a2 a3 a4 a5 = some true := by
  unfold laws_eqBadTable.f laws_eqGeometry.f
  rw [if_pos rfl, if_pos rfl, if_pos rfl]
  simp only [Option.bind_some, if_true]
  rw [laws_eqInt64S_f a4 h4 k hk4]
  simp only [Option.bind_some, if_true]
  rw [laws_eqInt64S_f a5 h5 k hk5]
  rfl
theorem same_bt (a0 a1 a2 a3 : Int) (a4 a5 : List Int) (b0 b1 b2 b3 : Int) (b4 b5 : List Int) (h4 : a4.length ≤ 1048576) (h5 : a5.length ≤ 1048576) (k : Nat) (hk4 : a4.length < k) (hk5 : a5.length < k) :
    ∃ r, spec_SameBadTable.f k a0 a1 a2 a3 a4 a5 b0 b1 b2 b3 b4 b5 = some r ∧ impl_SameBadTable.f k a0 a1 a2 a3 a4 a5 b0 b1 b2 b3 b4 b5 = some r := by
  unfold spec_SameBadTable.f impl_SameBadTable.f
  by_cases c0 : (a0 == b0 && (a1 == b1 && (a2 == b2))) = true
  · by_cases c1 : a3 = b3
    · obtain ⟨r, e1, e2⟩ := same_ints a4 b4 h4 k k hk4 hk4
      obtain ⟨q, e3, e4⟩ := same_ints a5 b5 h5 k k hk5 hk5
      rw [if_pos c0, if_pos c0, if_pos c1, if_pos c1, e1, e2]
      simp only [Option.bind_some]
      cases r
      · exact ⟨false, rfl, rfl⟩
      · simp only [if_true]
        rw [e3, e4]
        exact ⟨q, rfl, rfl⟩
    · rw [if_pos c0, if_pos c0, if_neg c1, if_neg c1]
      exact ⟨false, rfl, rfl⟩
  · rw [if_neg c0, if_neg c0]
    exact ⟨false, rfl, rfl⟩
theorem FnExactSameBadTable : laws_FnExactSameBadTable.Pure := by
  intro a0 a1 a2 a3 a4 a5 b0 b1 b2 b3 b4 b5 _ _ _ _ ha4 ha5 _ _ _ _ hb4 hb5
  refine ⟨1048600, ?_⟩
  unfold laws_FnExactSameBadTable.f
  obtain ⟨m, e1, h1, g1⟩ := sz_bt a0 a1 a2 a3 a4 a5 ha4.1 ha5.1 1048576 (by omega) (by omega)
  rw [e1]
  simp only [Option.bind_some]
  by_cases c : m < 0
  · rw [if_pos c]
  · rw [if_neg c]
    have g2 := g1 (by omega)
    obtain ⟨m2, e2, h2, g3⟩ := sz_bt b0 b1 b2 b3 b4 b5 hb4.1 hb5.1 m (by omega) (by omega)
    rw [e2]
    simp only [Option.bind_some]
    by_cases c2 : m2 < 0
    · rw [if_pos c2]
    · rw [if_neg c2]
      have g4 := g3 (by omega)
      have t1 := to_bt a0 a1 a2 a3 a4 a5 (by omega) (by omega) 1048600 (by omega) (by omega)
      have t2 := to_bt b0 b1 b2 b3 b4 b5 (by omega) (by omega) 1048600 (by omega) (by omega)
      obtain ⟨r, s1, s2⟩ := same_bt a0 a1 a2 a3 a4 a5 b0 b1 b2 b3 b4 b5 (by omega) (by omega) 1048600 (by omega) (by omega)
      have q1 := eq_bt a0 a1 a2 a3 a4 a5 (by omega) (by omega) 1048600 (by omega) (by omega)
      have q2 := eq_bt b0 b1 b2 b3 b4 b5 (by omega) (by omega) 1048600 (by omega) (by omega)
      rw [t1, t2]
      simp only [Option.bind_some]
      rw [s1, s2]
      simp only [Option.bind_some]
      rw [if_neg (by simp), q1]
      simp only [Option.bind_some, if_true]
      rw [q2]
      rfl

end Go.Proofs.Ytgemaodbhagehaa.Pure
