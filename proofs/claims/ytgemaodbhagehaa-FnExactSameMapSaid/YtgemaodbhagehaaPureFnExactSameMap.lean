/- The pure statement of FnExactSameMap holds: the program's SameMap and the reference's answer the same for all maps. Condition: the row's own bounds. -/
import Derived.Test.YtgemaodbhagehaaQFnExactSameMapx4
import Derived.Test.YtgemaodbhagehaaGen
namespace Go.Proofs.Ytgemaodbhagehaa.Pure
open Go.RowKit Go.Proofs.Ytgemaodbhagehaa.QFnExactSameMap Go.Proofs.YtgemaodbhagehaaW.PrintWords Go.Proofs.YtgemaodbhagehaaW.PrintLast

open Go.Proofs.Ytgemaodbhagehaa.Lem Go.Proofs.Ytgemaodbhagehaa.Gen
theorem laws_toInt64S_l (l : List Int) (hl : l.length ≤ 1048576) (d : Nat) : ∀ (k i : Nat), i + d = l.length → d < k →
    laws_toInt64S.l0 k l (fillG (0 : Int) (fun j : Nat => rd l (j : Int)) l.length i) (i : Int) = some (tabG (fun j : Nat => rd l (j : Int)) l.length) := by
  induction d with
  | zero =>
    intro k i hi hk
    obtain ⟨k, rfl⟩ : ∃ n, k = n + 1 := ⟨k - 1, by omega⟩
    obtain rfl : i = l.length := by omega
    rw [laws_toInt64S.l0, if_neg (by omega), fillG_all]
  | succ d ih =>
    intro k i hi hk
    obtain ⟨k, rfl⟩ : ∃ n, k = n + 1 := ⟨k - 1, by omega⟩
    have t : ((i : Int)).toNat = i := by omega
    rw [laws_toInt64S.l0, if_pos (by omega), if_pos (by omega)]
    rw [if_pos (by rw [fillG_length _ _ _ _ (by omega)]; omega), w64 (by omega) (by omega)]
    have e := ih k (i + 1) (by omega) (by omega)
    rw [← fillG_set (0 : Int) (fun j : Nat => rd l (j : Int)) l.length i (by omega)] at e
    have e2 : ((i + 1 : Nat) : Int) = (i : Int) + 1 := by omega
    rw [e2] at e
    rw [t]
    exact e
theorem laws_toInt64S_f (l : List Int) (hl : l.length ≤ 1048576) (k : Nat) (hk : l.length < k) : laws_toInt64S.f k l = some (l) := by
  unfold laws_toInt64S.f
  have t : ((l.length : Int)).toNat = l.length := by omega
  rw [if_pos (by omega), t, if_pos (by omega), ← fillG_zero (0 : Int) (fun j : Nat => rd l (j : Int))]
  have e := laws_toInt64S_l l hl l.length k 0 (by omega) hk
  have e0 : ((0 : Nat) : Int) = 0 := rfl
  rw [e0] at e
  rw [e, show tabG (fun j : Nat => rd l (j : Int)) l.length = l from tabG_id l 0]
theorem laws_toBoolS_l (l : List Bool) (hl : l.length ≤ 1048576) (d : Nat) : ∀ (k i : Nat), i + d = l.length → d < k →
    laws_toBoolS.l0 k l (fillG false (fun j : Nat => rdOf false l (j : Int)) l.length i) (i : Int) = some (tabG (fun j : Nat => rdOf false l (j : Int)) l.length) := by
  induction d with
  | zero =>
    intro k i hi hk
    obtain ⟨k, rfl⟩ : ∃ n, k = n + 1 := ⟨k - 1, by omega⟩
    obtain rfl : i = l.length := by omega
    rw [laws_toBoolS.l0, if_neg (by omega), fillG_all]
  | succ d ih =>
    intro k i hi hk
    obtain ⟨k, rfl⟩ : ∃ n, k = n + 1 := ⟨k - 1, by omega⟩
    have t : ((i : Int)).toNat = i := by omega
    rw [laws_toBoolS.l0, if_pos (by omega), if_pos (by omega)]
    rw [if_pos (by rw [fillG_length _ _ _ _ (by omega)]; omega), w64 (by omega) (by omega)]
    have e := ih k (i + 1) (by omega) (by omega)
    rw [← fillG_set false (fun j : Nat => rdOf false l (j : Int)) l.length i (by omega)] at e
    have e2 : ((i + 1 : Nat) : Int) = (i : Int) + 1 := by omega
    rw [e2] at e
    rw [t]
    exact e
theorem laws_toBoolS_f (l : List Bool) (hl : l.length ≤ 1048576) (k : Nat) (hk : l.length < k) : laws_toBoolS.f k l = some (l) := by
  unfold laws_toBoolS.f
  have t : ((l.length : Int)).toNat = l.length := by omega
  rw [if_pos (by omega), t, if_pos (by omega), ← fillG_zero false (fun j : Nat => rdOf false l (j : Int))]
  have e := laws_toBoolS_l l hl l.length k 0 (by omega) hk
  have e0 : ((0 : Nat) : Int) = 0 := rfl
  rw [e0] at e
  rw [e, show tabG (fun j : Nat => rdOf false l (j : Int)) l.length = l from tabG_id l false]
theorem laws_eqInt64S_l (l : List Int) (hl : l.length ≤ 1048576) (d : Nat) : ∀ (k i : Nat), i + d = l.length → d < k → laws_eqInt64S.l0 k l l (i : Int) = some true := by
  induction d with
  | zero =>
    intro k i hi hk
    obtain ⟨k, rfl⟩ : ∃ n, k = n + 1 := ⟨k - 1, by omega⟩
    rw [laws_eqInt64S.l0, if_neg (by omega)]
  | succ d ih =>
    intro k i hi hk
    obtain ⟨k, rfl⟩ : ∃ n, k = n + 1 := ⟨k - 1, by omega⟩
    rw [laws_eqInt64S.l0, if_pos (by omega), if_pos (by omega), if_pos (by omega)]
    rw [if_pos rfl]
    rw [w64 (by omega) (by omega)]
    exact ih k (i + 1) (by omega) (by omega)
theorem laws_eqInt64S_f (l : List Int) (hl : l.length ≤ 1048576) (k : Nat) (hk : l.length < k) : laws_eqInt64S.f k l l = some true := by
  unfold laws_eqInt64S.f
  rw [if_pos rfl]
  exact laws_eqInt64S_l l hl l.length k 0 (by omega) hk
theorem laws_eqBoolS_l (l : List Bool) (hl : l.length ≤ 1048576) (d : Nat) : ∀ (k i : Nat), i + d = l.length → d < k → laws_eqBoolS.l0 k l l (i : Int) = some true := by
  induction d with
  | zero =>
    intro k i hi hk
    obtain ⟨k, rfl⟩ : ∃ n, k = n + 1 := ⟨k - 1, by omega⟩
    rw [laws_eqBoolS.l0, if_neg (by omega)]
  | succ d ih =>
    intro k i hi hk
    obtain ⟨k, rfl⟩ : ∃ n, k = n + 1 := ⟨k - 1, by omega⟩
    rw [laws_eqBoolS.l0, if_pos (by omega), if_pos (by omega), if_pos (by omega)]
    rw [if_neg (by simp)]
    rw [w64 (by omega) (by omega)]
    exact ih k (i + 1) (by omega) (by omega)
theorem laws_eqBoolS_f (l : List Bool) (hl : l.length ≤ 1048576) (k : Nat) (hk : l.length < k) : laws_eqBoolS.f k l l = some true := by
  unfold laws_eqBoolS.f
  rw [if_pos rfl]
  exact laws_eqBoolS_l l hl l.length k 0 (by omega) hk
/-- Two lists of one length, compared from place i on. -/
theorem same_spec (a b : List Int) (hab : a.length = b.length) (ha : a.length ≤ 1048576) (d : Nat) : ∀ (k k' i : Nat), i + d = a.length → d < k → d < k' →
    ∃ r, spec_l00Same.l0 k a b (i : Int) = some r ∧ slices_Equal_int64_int64.l0 k' a b (a.length : Int) (i : Int) = some r := by
  induction d with
  | zero =>
    intro k k' i hi hk hk'
    obtain ⟨k, rfl⟩ : ∃ n, k = n + 1 := ⟨k - 1, by omega⟩
    obtain ⟨k', rfl⟩ : ∃ n, k' = n + 1 := ⟨k' - 1, by omega⟩
    refine ⟨true, ?_, ?_⟩
    · rw [spec_l00Same.l0, if_neg (by omega)]
    · rw [slices_Equal_int64_int64.l0, if_neg (by omega)]
  | succ d ih =>
    intro k k' i hi hk hk'
    obtain ⟨k, rfl⟩ : ∃ n, k = n + 1 := ⟨k - 1, by omega⟩
    obtain ⟨k', rfl⟩ : ∃ n, k' = n + 1 := ⟨k' - 1, by omega⟩
    rw [spec_l00Same.l0, slices_Equal_int64_int64.l0, w64 (by omega) (by omega)]
    have c0 : (i : Int) < (a.length : Int) := by omega
    have c1 : (0 : Int) ≤ (i : Int) := by omega
    have c2 : (i : Int) < (b.length : Int) := by omega
    simp only [if_pos c0, if_pos c1, if_pos c2]
    by_cases e : rd a (i : Int) = rd b (i : Int)
    · simp only [if_pos e]
      exact ih k k' (i + 1) (by omega) (by omega) (by omega)
    · simp only [if_neg e]
      exact ⟨false, rfl, rfl⟩
theorem same_ints (a b : List Int) (ha : a.length ≤ 1048576) (k k' : Nat) (hk : a.length < k) (hk' : a.length < k') : ∃ r, spec_l00Same.f k a b = some r ∧ slices_Equal_int64_int64.f k' a b = some r := by
  unfold spec_l00Same.f slices_Equal_int64_int64.f
  by_cases h : (a.length : Int) = (b.length : Int)
  · rw [if_pos h, if_pos h]
    exact same_spec a b (by omega) ha a.length k k' 0 (by omega) hk hk'
  · rw [if_neg h, if_neg h]
    exact ⟨false, rfl, rfl⟩
theorem sz_ints (l : List Int) (h : l.length ≤ maxLen) (n : Int) (n0 : 0 ≤ n) (n1 : n ≤ 1048576) : ∃ m, laws_szInt64S.f l n = some m ∧ m ≤ n ∧ (0 ≤ m → m = n - l.length) := by
  simp only [maxLen] at h
  unfold laws_szInt64S.f
  rw [w64 (by omega) (by omega)]
  by_cases c : n - (l.length : Int) < 0
  · rw [if_pos c]
    exact ⟨-1, rfl, by omega, fun h => by omega⟩
  · rw [if_neg c]
    exact ⟨_, rfl, by omega, fun _ => rfl⟩
theorem same_bools (a b : List Bool) (hab : a.length = b.length) (ha : a.length ≤ 1048576) (x y : Int) (p : List Int) (x' y' : Int) (p' : List Int) (d : Nat) : ∀ (k k' i : Nat), i + d = a.length → d < k → d < k' →
    ∃ r, spec_SameMap.l0 k (i : Int) x y p a x' y' p' b = some r ∧ slices_Equal_bool_bool.l0 k' a b (a.length : Int) (i : Int) = some r := by
  induction d with
  | zero =>
    intro k k' i hi hk hk'
    obtain ⟨k, rfl⟩ : ∃ n, k = n + 1 := ⟨k - 1, by omega⟩
    obtain ⟨k', rfl⟩ : ∃ n, k' = n + 1 := ⟨k' - 1, by omega⟩
    refine ⟨true, ?_, ?_⟩
    · rw [spec_SameMap.l0, if_neg (by omega)]
    · rw [slices_Equal_bool_bool.l0, if_neg (by omega)]
  | succ d ih =>
    intro k k' i hi hk hk'
    obtain ⟨k, rfl⟩ : ∃ n, k = n + 1 := ⟨k - 1, by omega⟩
    obtain ⟨k', rfl⟩ : ∃ n, k' = n + 1 := ⟨k' - 1, by omega⟩
    rw [spec_SameMap.l0, slices_Equal_bool_bool.l0, w64 (by omega) (by omega)]
    have c0 : (i : Int) < (a.length : Int) := by omega
    have c1 : (0 : Int) ≤ (i : Int) := by omega
    have c2 : (i : Int) < (b.length : Int) := by omega
    simp only [if_pos c0, if_pos c1, if_pos c2]
    by_cases e : (rdOf false a (i : Int) != rdOf false b (i : Int)) = true
    · simp only [if_pos e]
      exact ⟨false, rfl, rfl⟩
    · simp only [if_neg e]
      exact ih k k' (i + 1) (by omega) (by omega) (by omega)
theorem same_map (a0 a1 : Int) (a2 : List Int) (a3 : List Bool) (b0 b1 : Int) (b2 : List Int) (b3 : List Bool) (h2 : a2.length ≤ 1048576) (h3 : a3.length ≤ 1048576) (k : Nat) (hk2 : a2.length < k) (hk3 : a3.length + 1 < k) :
    ∃ r, spec_SameMap.f (k + 1) a0 a1 a2 a3 b0 b1 b2 b3 = some r ∧ impl_SameMap.f (k + 1) a0 a1 a2 a3 b0 b1 b2 b3 = some r := by
  unfold spec_SameMap.f impl_SameMap.f
  by_cases c0 : a0 = b0
  · by_cases c1 : a1 = b1
    · obtain ⟨r, e1, e2⟩ := same_ints a2 b2 h2 (k + 1) (k + 1) (by omega) (by omega)
      rw [if_pos c0, if_pos c0, if_pos c1, if_pos c1, e1, e2]
      simp only [Option.bind_some]
      cases r
      · exact ⟨false, rfl, rfl⟩
      · simp only [if_true]
        rw [spec_SameMap.j0]
        unfold slices_Equal_bool_bool.f
        by_cases c2 : (a3.length : Int) = (b3.length : Int)
        · rw [if_neg (by simp [c2]), if_pos c2]
          obtain ⟨r, g1, g2⟩ := same_bools a3 b3 (by omega) h3 a0 a1 a2 b0 b1 b2 a3.length k (k + 1) 0 (by omega) (by omega) (by omega)
          refine ⟨r, g1, ?_⟩
          have g2' : slices_Equal_bool_bool.l0 (k + 1) a3 b3 (a3.length : Int) 0 = some r := g2
          rw [g2']
          rfl
        · rw [if_pos (by simpa using c2), if_neg c2]
          exact ⟨false, rfl, rfl⟩
    · rw [if_pos c0, if_pos c0, if_neg c1, if_neg c1]
      exact ⟨false, rfl, rfl⟩
  · rw [if_neg c0, if_neg c0]
    exact ⟨false, rfl, rfl⟩
theorem sz_bools (l : List Bool) (h : l.length ≤ maxLen) (n : Int) (n0 : 0 ≤ n) (n1 : n ≤ 1048576) : ∃ m, laws_szBoolS.f l n = some m ∧ m ≤ n ∧ (0 ≤ m → m = n - l.length) := by
  simp only [maxLen] at h
  unfold laws_szBoolS.f
  rw [w64 (by omega) (by omega)]
  by_cases c : n - (l.length : Int) < 0
  · rw [if_pos c]
    exact ⟨-1, rfl, by omega, fun h => by omega⟩
  · rw [if_neg c]
    exact ⟨_, rfl, by omega, fun _ => rfl⟩
theorem sz_map (a0 a1 : Int) (a2 : List Int) (a3 : List Bool) (h2 : a2.length ≤ maxLen) (h3 : a3.length ≤ maxLen) (n : Int) (n0 : 0 ≤ n) (n1 : n ≤ 1048576) :
    ∃ m, laws_szPageMap.f a0 a1 a2 a3 n = some m ∧ m ≤ n ∧ (0 ≤ m → m = n - a2.length - a3.length) := by
  unfold laws_szPageMap.f
  obtain ⟨m, e1, g1, g2⟩ := sz_ints a2 h2 n n0 n1
  rw [e1]
  simp only [Option.bind_some]
  by_cases c : m < 0
  · rw [if_pos c]
    exact ⟨-1, rfl, by omega, fun h => by omega⟩
  · rw [if_neg c]
    obtain ⟨m2, e2, g3, g4⟩ := sz_bools a3 h3 m (by omega) (by omega)
    rw [e2]
    simp only [Option.bind_some]
    have g5 := g2 (by omega)
    by_cases c2 : m2 < 0
    · rw [if_pos c2]
      exact ⟨-1, rfl, by omega, fun h => by omega⟩
    · rw [if_neg c2]
      exact ⟨m2, rfl, by omega, fun h => by have := g4 h; omega⟩
theorem to_map (a0 a1 : Int) (a2 : List Int) (a3 : List Bool) (h2 : a2.length ≤ 1048576) (h3 : a3.length ≤ 1048576) (k : Nat) (hk2 : a2.length < k) (hk3 : a3.length < k) : laws_toPageMap.f k a0 a1 a2 a3 = some (a0, a1, a2, a3) := by
  unfold laws_toPageMap.f
  rw [laws_toInt64S_f a2 h2 k hk2]
  simp only [Option.bind_some]
  rw [laws_toBoolS_f a3 h3 k hk3]
  rfl
theorem eq_map (a0 a1 : Int) (a2 : List Int) (a3 : List Bool) (h2 : a2.length ≤ 1048576) (h3 : a3.length ≤ 1048576) (k : Nat) (hk2 : a2.length < k) (hk3 : a3.length < k) : laws_eqPageMap.f k a0 a1 a2 a3 a0 a1 a2 a3 = some true := by
  unfold laws_eqPageMap.f
  rw [if_pos rfl, if_pos rfl, laws_eqInt64S_f a2 h2 k hk2]
  simp only [Option.bind_some, if_true]
  rw [laws_eqBoolS_f a3 h3 k hk3]
  rfl
theorem FnExactSameMap : laws_FnExactSameMap.Pure := by
  intro a0 a1 a2 a3 b0 b1 b2 b3 _ _ ha2 ha3 _ _ hb2 hb3
  refine ⟨1048600, ?_⟩
  unfold laws_FnExactSameMap.f
  obtain ⟨m, e1, h1, g1⟩ := sz_map a0 a1 a2 a3 ha2.1 ha3.1 1048576 (by omega) (by omega)
  rw [e1]
  simp only [Option.bind_some]
  by_cases c : m < 0
  · rw [if_pos c]
  · rw [if_neg c]
    have g2 := g1 (by omega)
    obtain ⟨m2, e2, h2, g3⟩ := sz_map b0 b1 b2 b3 hb2.1 hb3.1 m (by omega) (by omega)
    rw [e2]
    simp only [Option.bind_some]
    by_cases c2 : m2 < 0
    · rw [if_pos c2]
    · rw [if_neg c2]
      have g4 := g3 (by omega)
      have t1 := to_map a0 a1 a2 a3 (by omega) (by omega) 1048600 (by omega) (by omega)
      have t2 := to_map b0 b1 b2 b3 (by omega) (by omega) 1048600 (by omega) (by omega)
      obtain ⟨r, s1, s2⟩ := same_map a0 a1 a2 a3 b0 b1 b2 b3 (by omega) (by omega) 1048599 (by omega) (by omega)
      have q1 := eq_map a0 a1 a2 a3 (by omega) (by omega) 1048600 (by omega) (by omega)
      have q2 := eq_map b0 b1 b2 b3 (by omega) (by omega) 1048600 (by omega) (by omega)
      have s1' : spec_SameMap.f 1048600 a0 a1 a2 a3 b0 b1 b2 b3 = some r := s1
      have s2' : impl_SameMap.f 1048600 a0 a1 a2 a3 b0 b1 b2 b3 = some r := s2
      rw [t1, t2]
      simp only [Option.bind_some]
      rw [s1', s2']
      simp only [Option.bind_some]
      rw [if_neg (by simp), q1]
      simp only [Option.bind_some, if_true]
      rw [q2]
      rfl

end Go.Proofs.Ytgemaodbhagehaa.Pure
