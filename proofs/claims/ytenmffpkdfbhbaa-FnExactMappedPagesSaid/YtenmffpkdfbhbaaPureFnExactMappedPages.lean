/- The pure statement of FnExactMappedPages holds. No condition beyond the row's bounds. -/
import Derived.Test.YtenmffpkdfbhbaaQFnExactMappedPagesx6
import Derived.Test.YtenmffpkdfbhbaaGen
import Derived.Test.YtenmffpkdfbhbaaHand
namespace Go.Proofs.Ytenmffpkdfbhbaa.Pure
open Go.RowKit Go.Proofs.Ytenmffpkdfbhbaa.QFnExactMappedPages Go.Proofs.YtenmffpkdfbhbaaW.PrintWords Go.Proofs.YtenmffpkdfbhbaaW.PrintLast
open Go.Proofs.Ytenmffpkdfbhbaa.Lem Go.Proofs.Ytenmffpkdfbhbaa.Gen Go.Proofs.Ytenmffpkdfbhbaa.Hand
theorem laws_toInt64S_l (l : List Int) (hl : l.length ≤ 1048576) (d : Nat) : ∀ (k i : Nat), i + d = l.length → d < k →
    laws_toInt64S.l0 k l (fillG (0 : Int) (fun j : Nat => rd l (j : Int)) l.length i) (i : Int) = some (tabG (fun j : Nat => rd l (j : Int)) l.length) := by
  induction d with
  | zero =>
    intro k i hi hk
    obtain ⟨k, rfl⟩ : ∃ n, k = n + 1 := ⟨k - 1, by omega⟩
    obtain rfl : i = l.length := by omega
    rw [laws_toInt64S.l0, if_neg (by omega), fillG_all]
  | succ d ih =>
    intro k i hi hk
    obtain ⟨k, rfl⟩ : ∃ n, k = n + 1 := ⟨k - 1, by omega⟩
    have t : ((i : Int)).toNat = i := by omega
    rw [laws_toInt64S.l0, if_pos (by omega), if_pos (by omega)]
    rw [if_pos (by rw [fillG_length _ _ _ _ (by omega)]; omega), w64 (by omega) (by omega)]
    have e := ih k (i + 1) (by omega) (by omega)
    rw [← fillG_set (0 : Int) (fun j : Nat => rd l (j : Int)) l.length i (by omega)] at e
    have e2 : ((i + 1 : Nat) : Int) = (i : Int) + 1 := by omega
    rw [e2] at e
    rw [t]
    exact e
theorem laws_toInt64S_f (l : List Int) (hl : l.length ≤ 1048576) (k : Nat) (hk : l.length < k) : laws_toInt64S.f k l = some (l) := by
  unfold laws_toInt64S.f
  have t : ((l.length : Int)).toNat = l.length := by omega
  rw [if_pos (by omega), t, if_pos (by omega), ← fillG_zero (0 : Int) (fun j : Nat => rd l (j : Int))]
  have e := laws_toInt64S_l l hl l.length k 0 (by omega) hk
  have e0 : ((0 : Nat) : Int) = 0 := rfl
  rw [e0] at e
  rw [e, show tabG (fun j : Nat => rd l (j : Int)) l.length = l from tabG_id l 0]
theorem laws_toBoolS_l (l : List Bool) (hl : l.length ≤ 1048576) (d : Nat) : ∀ (k i : Nat), i + d = l.length → d < k →
    laws_toBoolS.l0 k l (fillG false (fun j : Nat => rdOf false l (j : Int)) l.length i) (i : Int) = some (tabG (fun j : Nat => rdOf false l (j : Int)) l.length) := by
  induction d with
  | zero =>
    intro k i hi hk
    obtain ⟨k, rfl⟩ : ∃ n, k = n + 1 := ⟨k - 1, by omega⟩
    obtain rfl : i = l.length := by omega
    rw [laws_toBoolS.l0, if_neg (by omega), fillG_all]
  | succ d ih =>
    intro k i hi hk
    obtain ⟨k, rfl⟩ : ∃ n, k = n + 1 := ⟨k - 1, by omega⟩
    have t : ((i : Int)).toNat = i := by omega
    rw [laws_toBoolS.l0, if_pos (by omega), if_pos (by omega)]
    rw [if_pos (by rw [fillG_length _ _ _ _ (by omega)]; omega), w64 (by omega) (by omega)]
    have e := ih k (i + 1) (by omega) (by omega)
    rw [← fillG_set false (fun j : Nat => rdOf false l (j : Int)) l.length i (by omega)] at e
    have e2 : ((i + 1 : Nat) : Int) = (i : Int) + 1 := by omega
    rw [e2] at e
    rw [t]
    exact e
theorem laws_toBoolS_f (l : List Bool) (hl : l.length ≤ 1048576) (k : Nat) (hk : l.length < k) : laws_toBoolS.f k l = some (l) := by
  unfold laws_toBoolS.f
  have t : ((l.length : Int)).toNat = l.length := by omega
  rw [if_pos (by omega), t, if_pos (by omega), ← fillG_zero false (fun j : Nat => rdOf false l (j : Int))]
  have e := laws_toBoolS_l l hl l.length k 0 (by omega) hk
  have e0 : ((0 : Nat) : Int) = 0 := rfl
  rw [e0] at e
  rw [e, show tabG (fun j : Nat => rdOf false l (j : Int)) l.length = l from tabG_id l false]
theorem laws_eqInt64S_l (l : List Int) (hl : l.length ≤ 1048576) (d : Nat) : ∀ (k i : Nat), i + d = l.length → d < k → laws_eqInt64S.l0 k l l (i : Int) = some true := by
  induction d with
  | zero =>
    intro k i hi hk
    obtain ⟨k, rfl⟩ : ∃ n, k = n + 1 := ⟨k - 1, by omega⟩
    rw [laws_eqInt64S.l0, if_neg (by omega)]
  | succ d ih =>
    intro k i hi hk
    obtain ⟨k, rfl⟩ : ∃ n, k = n + 1 := ⟨k - 1, by omega⟩
    rw [laws_eqInt64S.l0, if_pos (by omega), if_pos (by omega), if_pos (by omega)]
    rw [if_pos rfl]
    rw [w64 (by omega) (by omega)]
    exact ih k (i + 1) (by omega) (by omega)
theorem laws_eqInt64S_f (l : List Int) (hl : l.length ≤ 1048576) (k : Nat) (hk : l.length < k) : laws_eqInt64S.f k l l = some true := by
  unfold laws_eqInt64S.f
  rw [if_pos rfl]
  exact laws_eqInt64S_l l hl l.length k 0 (by omega) hk
theorem laws_eqBoolS_l (l : List Bool) (hl : l.length ≤ 1048576) (d : Nat) : ∀ (k i : Nat), i + d = l.length → d < k → laws_eqBoolS.l0 k l l (i : Int) = some true := by
  induction d with
  | zero =>
    intro k i hi hk
    obtain ⟨k, rfl⟩ : ∃ n, k = n + 1 := ⟨k - 1, by omega⟩
    rw [laws_eqBoolS.l0, if_neg (by omega)]
  | succ d ih =>
    intro k i hi hk
    obtain ⟨k, rfl⟩ : ∃ n, k = n + 1 := ⟨k - 1, by omega⟩
    rw [laws_eqBoolS.l0, if_pos (by omega), if_pos (by omega), if_pos (by omega)]
    rw [if_neg (by simp)]
    rw [w64 (by omega) (by omega)]
    exact ih k (i + 1) (by omega) (by omega)
theorem laws_eqBoolS_f (l : List Bool) (hl : l.length ≤ 1048576) (k : Nat) (hk : l.length < k) : laws_eqBoolS.f k l l = some true := by
  unfold laws_eqBoolS.f
  rw [if_pos rfl]
  exact laws_eqBoolS_l l hl l.length k 0 (by omega) hk
theorem sz_ints (l : List Int) (h : l.length ≤ maxLen) (n : Int) (n0 : 0 ≤ n) (n1 : n ≤ 1048576) : ∃ m, laws_szInt64S.f l n = some m ∧ m ≤ n ∧ (0 ≤ m → m = n - l.length) := by
  simp only [maxLen] at h
  unfold laws_szInt64S.f
  rw [w64 (by omega) (by omega)]
  by_cases c : n - (l.length : Int) < 0
  · rw [if_pos c]
    exact ⟨-1, rfl, by omega, fun h => by omega⟩
  · rw [if_neg c]
    exact ⟨_, rfl, by omega, fun _ => rfl⟩
theorem sz_bools (l : List Bool) (h : l.length ≤ maxLen) (n : Int) (n0 : 0 ≤ n) (n1 : n ≤ 1048576) : ∃ m, laws_szBoolS.f l n = some m ∧ m ≤ n ∧ (0 ≤ m → m = n - l.length) := by
  simp only [maxLen] at h
  unfold laws_szBoolS.f
  rw [w64 (by omega) (by omega)]
  by_cases c : n - (l.length : Int) < 0
  · rw [if_pos c]
    exact ⟨-1, rfl, by omega, fun h => by omega⟩
  · rw [if_neg c]
    exact ⟨_, rfl, by omega, fun _ => rfl⟩
theorem sz_map (a0 a1 : Int) (a2 : List Int) (a3 : List Bool) (h2 : a2.length ≤ maxLen) (h3 : a3.length ≤ maxLen) (n : Int) (n0 : 0 ≤ n) (n1 : n ≤ 1048576) :
    ∃ m, laws_szPageMap.f a0 a1 a2 a3 n = some m ∧ m ≤ n ∧ (0 ≤ m → m = n - a2.length - a3.length) := by
  unfold laws_szPageMap.f
  obtain ⟨m, e1, g1, g2⟩ := sz_ints a2 h2 n n0 n1
  rw [e1]
  simp only [Option.bind_some]
  by_cases c : m < 0
  · rw [if_pos c]
    exact ⟨-1, rfl, by omega, fun h => by omega⟩
  · rw [if_neg c]
    obtain ⟨m2, e2, g3, g4⟩ := sz_bools a3 h3 m (by omega) (by omega)
    rw [e2]
    simp only [Option.bind_some]
    have g5 := g2 (by omega)
    by_cases c2 : m2 < 0
    · rw [if_pos c2]
      exact ⟨-1, rfl, by omega, fun h => by omega⟩
    · rw [if_neg c2]
      exact ⟨m2, rfl, by omega, fun h => by have := g4 h; omega⟩
theorem to_map (a0 a1 : Int) (a2 : List Int) (a3 : List Bool) (h2 : a2.length ≤ 1048576) (h3 : a3.length ≤ 1048576) (k : Nat) (hk2 : a2.length < k) (hk3 : a3.length < k) : laws_toPageMap.f k a0 a1 a2 a3 = some (a0, a1, a2, a3) := by
  unfold laws_toPageMap.f
  rw [laws_toInt64S_f a2 h2 k hk2]
  simp only [Option.bind_some]
  rw [laws_toBoolS_f a3 h3 k hk3]
  rfl
theorem eq_map (a0 a1 : Int) (a2 : List Int) (a3 : List Bool) (h2 : a2.length ≤ 1048576) (h3 : a3.length ≤ 1048576) (k : Nat) (hk2 : a2.length < k) (hk3 : a3.length < k) : laws_eqPageMap.f k a0 a1 a2 a3 a0 a1 a2 a3 = some true := by
  unfold laws_eqPageMap.f
  rw [if_pos rfl, if_pos rfl, laws_eqInt64S_f a2 h2 k hk2]
  simp only [Option.bind_some, if_true]
  rw [laws_eqBoolS_f a3 h3 k hk3]
  rfl
/-! ### Which maps are valid -/
def okE (c : Int) (l : List Int) (t : List Bool) (i : Nat) : Bool := inB (rd l (i : Int)) (-1) c && (!(decide (rd l (i : Int) < 0) && rdOf false t (i : Int)) && !(decide (0 ≤ rd l (i : Int)) && (l.take i).any (fun y => y == rd l (i : Int))))
def okFrom (c : Int) (l : List Int) (t : List Bool) : Nat → Nat → Bool
  | 0, _ => true
  | d + 1, i => okE c l t i && okFrom c l t d (i + 1)
def mapB (a b : Int) (l : List Int) (t : List Bool) : Bool := decide (1 ≤ l.length ∧ l.length ≤ 48 ∧ 1 ≤ a ∧ a ≤ 640 ∧ 1 ≤ b ∧ b ≤ 640 ∧ a * b ≤ 640 ∧ t.length = l.length) && okFrom (a * b - 1) l t l.length 0
theorem in_spec (x lo hi : Int) : spec_l00In.f x lo hi = some (inB x lo hi) := by
  unfold spec_l00In.f inB
  by_cases h : x ≥ lo
  · rw [if_pos h, decide_eq_true (p := lo ≤ x) h, Bool.true_and]
  · rw [if_neg h, decide_eq_false (p := lo ≤ x) h, Bool.false_and]
theorem in_impl (x lo hi : Int) : impl_within.f x lo hi = some (inB x lo hi) := by
  unfold impl_within.f inB
  by_cases h : x ≥ lo
  · rw [if_pos h, decide_eq_true (p := lo ≤ x) h, Bool.true_and]
  · rw [if_neg h, decide_eq_false (p := lo ≤ x) h, Bool.false_and]
theorem inB_iff (x lo hi : Int) : inB x lo hi = true ↔ lo ≤ x ∧ x ≤ hi := by
  unfold inB
  simp
theorem mul_rng {a b : Int} (a1 : 1 ≤ a) (a2 : a ≤ 640) (b1 : 1 ≤ b) (b2 : b ≤ 640) : 1 ≤ a * b ∧ a * b ≤ 409600 := by
  have h1 : a * b ≤ 640 * 640 := Int.mul_le_mul a2 b2 (by omega) (by omega)
  have h2 : 1 * 1 ≤ a * b := Int.mul_le_mul a1 b1 (by omega) (by omega)
  omega
theorem size_spec (n a b : Int) : spec_l09Size.f n a b = some (decide (1 ≤ n ∧ n ≤ 48 ∧ 1 ≤ a ∧ a ≤ 640 ∧ 1 ≤ b ∧ b ≤ 640 ∧ a * b ≤ 640)) := by
  unfold spec_l09Size.f
  rw [in_spec, in_spec, in_spec]
  simp only [Option.bind_some]
  by_cases c1 : inB n 1 48 = true
  · rw [if_pos c1]
    have d1 := (inB_iff _ _ _).1 c1
    by_cases c2 : inB a 1 640 = true
    · rw [if_pos c2]
      have d2 := (inB_iff _ _ _).1 c2
      by_cases c3 : inB b 1 640 = true
      · rw [if_pos c3]
        have d3 := (inB_iff _ _ _).1 c3
        obtain ⟨e1, e2⟩ := mul_rng d2.1 d2.2 d3.1 d3.2
        rw [w64 (by omega) (by omega)]
        congr 1
        apply decide_eq_decide.2
        constructor
        · intro h; exact ⟨d1.1, d1.2, d2.1, d2.2, d3.1, d3.2, h⟩
        · intro h; exact h.2.2.2.2.2.2
      · rw [if_neg c3, decide_eq_false (fun h => c3 ((inB_iff _ _ _).2 ⟨h.2.2.2.2.1, h.2.2.2.2.2.1⟩))]
    · rw [if_neg c2, decide_eq_false (fun h => c2 ((inB_iff _ _ _).2 ⟨h.2.2.1, h.2.2.2.1⟩))]
  · rw [if_neg c1, decide_eq_false (fun h => c1 ((inB_iff _ _ _).2 ⟨h.1, h.2.1⟩))]
theorem size_impl (a b : Int) : impl_sizeOk.f a b = some (decide (1 ≤ a ∧ a ≤ 640 ∧ 1 ≤ b ∧ b ≤ 640 ∧ a * b ≤ 640)) := by
  unfold impl_sizeOk.f
  rw [in_impl]
  simp only [Option.bind_some]
  by_cases c2 : inB a 1 640 = true
  · rw [if_pos c2]
    have d2 := (inB_iff _ _ _).1 c2
    rw [if_neg (by omega), in_impl]
    simp only [Option.bind_some]
    have h0 : 0 ≤ (640 : Int) / a := Int.ediv_nonneg (by omega) (by omega)
    have h1 : (640 : Int) / a ≤ 640 := Int.ediv_le_self _ (by omega)
    rw [w64 (by omega) (by omega)]
    have hiff : b ≤ 640 / a ↔ b * a ≤ 640 := Int.le_ediv_iff_mul_le (by omega)
    congr 1
    by_cases c3 : 1 ≤ b ∧ b * a ≤ 640
    · have h2 : b ≤ 640 := by have := hiff.2 c3.2; omega
      rw [(inB_iff _ _ _).2 ⟨c3.1, hiff.2 c3.2⟩, decide_eq_true]
      exact ⟨d2.1, d2.2, c3.1, h2, by rw [Int.mul_comm]; exact c3.2⟩
    · rw [decide_eq_false (fun h => c3 ⟨h.2.2.1, by rw [Int.mul_comm]; exact h.2.2.2.2⟩)]
      exact Bool.eq_false_iff.mpr (fun h => c3 ⟨((inB_iff _ _ _).1 h).1, hiff.1 ((inB_iff _ _ _).1 h).2⟩)
  · rw [if_neg c2, decide_eq_false (fun h => c2 ((inB_iff _ _ _).2 ⟨h.1, h.2.1⟩))]
theorem idx_has (l : List Int) (x : Int) (hl : l.length ≤ 1048576) (d : Nat) : ∀ (k i : Nat), i + d = l.length → d < k → ∃ r, slices_Index_int64_int64.l0 k l x (l.length : Int) (i : Int) = some r ∧ decide (r ≥ 0) = (l.drop i).any (fun y => y == x) := by
  induction d with
  | zero =>
    intro k i hi hk
    obtain ⟨k, rfl⟩ : ∃ n, k = n + 1 := ⟨k - 1, by omega⟩
    rw [slices_Index_int64_int64.l0, if_neg (by omega), List.drop_eq_nil_of_le (by omega)]
    exact ⟨-1, rfl, rfl⟩
  | succ d ih =>
    intro k i hi hk
    obtain ⟨k, rfl⟩ : ∃ n, k = n + 1 := ⟨k - 1, by omega⟩
    have hlt : i < l.length := by omega
    have er : rd l (i : Int) = l[i] := by simp [rd, List.getD_eq_getElem?_getD, hlt]
    rw [slices_Index_int64_int64.l0, if_pos (by omega), if_pos (by omega), if_pos (by omega), er, List.drop_eq_getElem_cons hlt, List.any_cons]
    by_cases c : x = l[i]
    · rw [if_pos c]
      refine ⟨(i : Int), rfl, ?_⟩
      rw [decide_eq_true (by omega), beq_iff_eq.2 c.symm]
      rfl
    · rw [if_neg c, w64 (by omega) (by omega)]
      obtain ⟨r, e, h⟩ := ih k (i + 1) (by omega) (by omega)
      refine ⟨r, e, ?_⟩
      rw [h, beq_eq_false_iff_ne.2 (fun e => c e.symm), Bool.false_or]
theorem has_f (l : List Int) (x : Int) (hl : l.length ≤ 1048576) (k : Nat) (hk : l.length < k) : slices_Contains_int64_int64.f k l x = some (l.any (fun y => y == x)) := by
  unfold slices_Contains_int64_int64.f slices_Index_int64_int64.f
  obtain ⟨r, e, h⟩ := idx_has l x hl l.length k 0 (by omega) hk
  have e0 : ((0 : Nat) : Int) = 0 := rfl
  rw [e0] at e
  rw [e]
  simp only [Option.bind_some]
  rw [h, List.drop_zero]
theorem spec_in (a b : Int) (l : List Int) (t : List Bool) (hl : l.length ≤ 48) (i : Nat) (hi : i < l.length) (R : Bool) (B : Nat) (H : ∀ k, B < k → spec_l09Ok.l0 k ((i + 1 : Nat) : Int) a b l t = some R) (d : Nat) : ∀ (k j : Nat), j + d = i → B + d + 1 < k →
    spec_l09Ok.l1 k (i : Int) (j : Int) a b l t = some (!(decide (0 ≤ rd l (i : Int)) && ((l.take i).drop j).any (fun y => y == rd l (i : Int))) && R) := by
  induction d with
  | zero =>
    intro k j hj hk
    obtain ⟨k, rfl⟩ : ∃ n, k = n + 1 := ⟨k - 1, by omega⟩
    have e : (l.take i).drop j = [] := List.drop_eq_nil_of_le (by rw [List.length_take]; omega)
    rw [spec_l09Ok.l1, if_neg (by omega), w64 (by omega) (by omega), e]
    have e2 : ((i + 1 : Nat) : Int) = (i : Int) + 1 := by omega
    rw [← e2, H k (by omega)]
    simp
  | succ d ih =>
    intro k j hj hk
    obtain ⟨k, rfl⟩ : ∃ n, k = n + 1 := ⟨k - 1, by omega⟩
    have hlt : j < (l.take i).length := by rw [List.length_take]; omega
    have hlt2 : j < l.length := by omega
    have er : rd l (j : Int) = l[j] := by simp [rd, List.getD_eq_getElem?_getD, hlt2]
    have eg : (l.take i)[j] = l[j] := List.getElem_take
    have e2 : ((j + 1 : Nat) : Int) = (j : Int) + 1 := by omega
    have e := ih k (j + 1) (by omega) (by omega)
    rw [e2] at e
    rw [spec_l09Ok.l1, if_pos (by omega), if_pos (by omega), if_pos (by omega), List.drop_eq_getElem_cons hlt, List.any_cons, eg]
    by_cases c : rd l (i : Int) ≥ 0
    · have c' : (0 : Int) ≤ rd l (i : Int) := c
      rw [if_pos c, if_pos (by omega), if_pos (by omega), er]
      by_cases c2 : l[j] = rd l (i : Int)
      · rw [if_pos c2, beq_iff_eq.2 c2, decide_eq_true c']
        simp
      · rw [if_neg c2, w64 (by omega) (by omega), e, beq_eq_false_iff_ne.2 c2, Bool.false_or]
    · have c' : ¬ (0 : Int) ≤ rd l (i : Int) := c
      rw [if_neg c, w64 (by omega) (by omega), e, decide_eq_false c', Bool.false_and, Bool.false_and]
theorem spec_from (a b : Int) (hp : 1 ≤ a * b ∧ a * b ≤ 640) (l : List Int) (t : List Bool) (hl : l.length ≤ 48) (ht : t.length = l.length) (d : Nat) : ∀ (k i : Nat), i + d = l.length → d * 60 + 60 < k →
    spec_l09Ok.l0 k (i : Int) a b l t = some (okFrom (a * b - 1) l t d i) := by
  induction d with
  | zero =>
    intro k i hi hk
    obtain ⟨k, rfl⟩ : ∃ n, k = n + 1 := ⟨k - 1, by omega⟩
    rw [spec_l09Ok.l0, if_neg (by omega)]
    rfl
  | succ d ih =>
    intro k i hi hk
    obtain ⟨k, rfl⟩ : ∃ n, k = n + 2 := ⟨k - 2, by omega⟩
    have hin := spec_in a b l t hl i (by omega) (okFrom (a * b - 1) l t d (i + 1)) (d * 60 + 60) (fun k hk => ih k (i + 1) (by omega) hk) i k 0 (by omega) (by omega)
    have e0 : ((0 : Nat) : Int) = 0 := rfl
    rw [e0, List.drop_zero] at hin
    rw [spec_l09Ok.l0, if_pos (by omega), if_pos (by omega), in_spec, w64 (n := a * b) (by omega) (by omega), w64 (by omega) (by omega)]
    simp only [Option.bind_some]
    show _ = some (okE (a * b - 1) l t i && okFrom (a * b - 1) l t d (i + 1))
    unfold okE
    by_cases c1 : inB (rd l (i : Int)) (-1) (a * b - 1) = true
    · rw [if_pos c1, c1, Bool.true_and]
      by_cases c2 : rd l (i : Int) < 0
      · rw [if_pos c2, if_pos (by omega), decide_eq_true c2, Bool.true_and, spec_l09Ok.j2]
        by_cases c3 : rdOf false t (i : Int) = true
        · rw [if_pos c3, c3]
          rfl
        · rw [if_neg c3, hin, Bool.eq_false_iff.mpr c3]
          simp
      · rw [if_neg c2, spec_l09Ok.j2, if_neg (by simp), hin, decide_eq_false c2]
        simp
    · rw [if_neg c1, spec_l09Ok.j2, if_pos rfl, Bool.eq_false_iff.mpr c1]
      rfl
theorem spec_map (a b : Int) (l : List Int) (t : List Bool) (k : Nat) (hk : 4000 < k) : spec_l09Ok.f k a b l t = some (mapB a b l t) := by
  obtain ⟨k, rfl⟩ : ∃ n, k = n + 1 := ⟨k - 1, by omega⟩
  unfold spec_l09Ok.f mapB
  rw [size_spec]
  simp only [Option.bind_some]
  by_cases c : 1 ≤ (l.length : Int) ∧ (l.length : Int) ≤ 48 ∧ 1 ≤ a ∧ a ≤ 640 ∧ 1 ≤ b ∧ b ≤ 640 ∧ a * b ≤ 640
  · rw [decide_eq_true c, if_pos rfl, spec_l09Ok.j0]
    obtain ⟨c1, c2, c3, c4, c5, c6, c7⟩ := c
    by_cases c8 : t.length = l.length
    · rw [if_neg (by simp [c8]), decide_eq_true (by exact ⟨by omega, by omega, c3, c4, c5, c6, c7, c8⟩), Bool.true_and]
      have e := spec_from a b ⟨(mul_rng c3 c4 c5 c6).1, c7⟩ l t (by omega) c8 l.length k 0 (by omega) (by omega)
      exact e
    · rw [if_pos (by simp; omega), decide_eq_false (fun h => c8 h.2.2.2.2.2.2.2), Bool.false_and]
  · rw [decide_eq_false c, if_neg (by simp), spec_l09Ok.j0, if_pos rfl, decide_eq_false (fun h => c ⟨by omega, by omega, h.2.2.1, h.2.2.2.1, h.2.2.2.2.1, h.2.2.2.2.2.1, h.2.2.2.2.2.2.1⟩), Bool.false_and]
theorem impl_from (a b : Int) (hp : 1 ≤ a * b ∧ a * b ≤ 640) (l : List Int) (t : List Bool) (hl : l.length ≤ 48) (ht : t.length = l.length) (d : Nat) : ∀ (k i : Nat), i + d = l.length → d + 60 < k →
    impl_ValidMap.l0 k l (l.length : Int) (i : Int) a b l t = some (okFrom (a * b - 1) l t d i) := by
  induction d with
  | zero =>
    intro k i hi hk
    obtain ⟨k, rfl⟩ : ∃ n, k = n + 1 := ⟨k - 1, by omega⟩
    rw [impl_ValidMap.l0, if_neg (by omega)]
    rfl
  | succ d ih =>
    intro k i hi hk
    obtain ⟨k, rfl⟩ : ∃ n, k = n + 1 := ⟨k - 1, by omega⟩
    have hi2 : ((i : Int)).toNat = i := by omega
    have e2 : ((i + 1 : Nat) : Int) = (i : Int) + 1 := by omega
    have e := ih k (i + 1) (by omega) (by omega)
    rw [e2] at e
    have hh := has_f (l.take i) (rd l (i : Int)) (by rw [List.length_take]; omega) k (by rw [List.length_take]; omega)
    have ph : impl_PageMap_physical.f a b l t = some (a * b) := by
      unfold impl_PageMap_physical.f
      rw [w64 (by omega) (by omega)]
    have hpos : ∀ (c2 : ¬ rd l (i : Int) < 0), (if rd l (i : Int) ≥ 0 then (if (i : Int) ≤ (l.length : Int) then ((slices_Contains_int64_int64.f k (l.take ((i : Int)).toNat) (rd l (i : Int))).bind fun t158 => (if t158 = true then (some false) else (impl_ValidMap.l0 k l (l.length : Int) (wrap64 ((i : Int) + 1)) a b l t))) else (none)) else (impl_ValidMap.l0 k l (l.length : Int) (wrap64 ((i : Int) + 1)) a b l t)) = some (!((l.take i).any (fun y => y == rd l (i : Int))) && okFrom (a * b - 1) l t d (i + 1)) := fun c2 => by
      rw [if_pos (by omega), if_pos (by omega), hi2, hh]
      simp only [Option.bind_some]
      cases (l.take i).any (fun y => y == rd l (i : Int))
      · rw [if_neg (by simp), w64 (by omega) (by omega), e]
        rfl
      · rw [if_pos rfl]
        rfl
    rw [impl_ValidMap.l0, if_pos (by omega), if_pos (by omega), if_pos (by omega), ph]
    simp only [Option.bind_some]
    rw [in_impl, w64 (n := a * b - 1) (by omega) (by omega)]
    simp only [Option.bind_some]
    show _ = some (okE (a * b - 1) l t i && okFrom (a * b - 1) l t d (i + 1))
    unfold okE
    by_cases c1 : inB (rd l (i : Int)) (-1) (a * b - 1) = true
    · rw [if_pos c1, c1, Bool.true_and]
      by_cases c2 : rd l (i : Int) < 0
      · have c3 : ¬ (0 : Int) ≤ rd l (i : Int) := by omega
        rw [if_pos c2, if_pos (by omega), decide_eq_true c2, Bool.true_and]
        by_cases c4 : rdOf false t (i : Int) = true
        · rw [if_pos c4, c4]
          rfl
        · rw [if_neg c4, if_neg (by omega), w64 (by omega) (by omega), e, Bool.eq_false_iff.mpr c4, decide_eq_false c3]
          rfl
      · rw [if_neg c2, hpos c2, decide_eq_false c2, decide_eq_true (p := (0 : Int) ≤ rd l (i : Int)) (by omega)]
        simp
    · rw [if_neg c1, Bool.eq_false_iff.mpr c1]
      rfl
theorem impl_map (a b : Int) (l : List Int) (t : List Bool) (k : Nat) (hk : 4000 < k) : impl_ValidMap.f k a b l t = some (mapB a b l t) := by
  obtain ⟨k, rfl⟩ : ∃ n, k = n + 1 := ⟨k - 1, by omega⟩
  unfold impl_ValidMap.f mapB
  rw [size_impl, in_impl]
  simp only [Option.bind_some]
  by_cases c : 1 ≤ a ∧ a ≤ 640 ∧ 1 ≤ b ∧ b ≤ 640 ∧ a * b ≤ 640
  · rw [decide_eq_true c, if_pos rfl]
    by_cases c0 : inB (l.length : Int) 1 48 = true
    · have d0 := (inB_iff _ _ _).1 c0
      rw [if_pos c0, impl_ValidMap.j0]
      by_cases c8 : t.length = l.length
      · rw [if_neg (by simp [c8]), decide_eq_true (by exact ⟨by omega, by omega, c.1, c.2.1, c.2.2.1, c.2.2.2.1, c.2.2.2.2, c8⟩), Bool.true_and]
        have e := impl_from a b ⟨(mul_rng c.1 c.2.1 c.2.2.1 c.2.2.2.1).1, c.2.2.2.2⟩ l t (by omega) c8 l.length k 0 (by omega) (by omega)
        exact e
      · rw [if_pos (by simp; omega), decide_eq_false (fun h => c8 h.2.2.2.2.2.2.2), Bool.false_and]
    · rw [if_neg c0, impl_ValidMap.j0, if_pos rfl, decide_eq_false (fun h => c0 ((inB_iff _ _ _).2 ⟨by omega, by omega⟩)), Bool.false_and]
  · rw [decide_eq_false c, if_neg (by simp), impl_ValidMap.j0, if_pos rfl, decide_eq_false (fun h => c ⟨h.2.2.1, h.2.2.2.1, h.2.2.2.2.1, h.2.2.2.2.2.1, h.2.2.2.2.2.2.1⟩), Bool.false_and]
theorem map_facts {a b : Int} {l : List Int} {t : List Bool} (h : mapB a b l t = true) : 1 ≤ l.length ∧ l.length ≤ 48 ∧ t.length = l.length := by
  have h1 := of_decide_eq_true (Bool.and_eq_true_iff.1 h).1
  exact ⟨h1.1, h1.2.1, h1.2.2.2.2.2.2.2⟩
/-- The physical page of a logical one, if there is one. -/
def physR (l : List Int) (t : List Bool) (x : Int) : Int × Bool := if 0 ≤ x ∧ x < (l.length : Int) then (if rd l x < 0 then (0, false) else (if rdOf false t x = true then (0, false) else (rd l x, true))) else (0, false)
theorem phys_spec (a b : Int) (l : List Int) (t : List Bool) (h1 : 1 ≤ l.length) (hl : l.length ≤ 48) (ht : t.length = l.length) (x : Int) : spec_l09Phys.f a b l t x = some (physR l t x) := by
  unfold spec_l09Phys.f physR
  rw [in_spec, w64 (by omega) (by omega)]
  simp only [Option.bind_some]
  by_cases c : 0 ≤ x ∧ x < (l.length : Int)
  · rw [(inB_iff _ _ _).2 ⟨c.1, by omega⟩, if_pos rfl, if_pos c.1, if_pos c.2, if_pos c]
    by_cases c2 : rd l x < 0
    · rw [if_pos c2, if_pos c2]
    · rw [if_neg c2, if_neg c2, if_pos (by omega)]
      by_cases c3 : rdOf false t x = true
      · rw [if_pos c3, if_pos c3]
      · rw [if_neg c3, if_neg c3]
  · rw [Bool.eq_false_iff.mpr (fun h => c ⟨((inB_iff _ _ _).1 h).1, by have := ((inB_iff _ _ _).1 h).2; omega⟩), if_neg (by simp), if_neg c]
theorem phys_impl (a b : Int) (l : List Int) (t : List Bool) (h1 : 1 ≤ l.length) (hl : l.length ≤ 48) (ht : t.length = l.length) (x : Int) : impl_PageMap_phys.f a b l t x = some (physR l t x) := by
  unfold impl_PageMap_phys.f impl_isIndex.f physR
  rw [in_impl, w64 (by omega) (by omega)]
  simp only [Option.bind_some]
  by_cases c : 0 ≤ x ∧ x < (l.length : Int)
  · rw [(inB_iff _ _ _).2 ⟨c.1, by omega⟩, if_pos rfl, if_pos c.1, if_pos c.2, if_pos c]
    by_cases c2 : rd l x < 0
    · rw [if_pos c2, if_pos c2]
    · rw [if_neg c2, if_neg c2, if_pos (by omega)]
      by_cases c3 : rdOf false t x = true
      · rw [if_pos c3, if_pos c3]
      · rw [if_neg c3, if_neg c3]
  · rw [Bool.eq_false_iff.mpr (fun h => c ⟨((inB_iff _ _ _).1 h).1, by have := ((inB_iff _ _ _).1 h).2; omega⟩), if_neg (by simp), if_neg c]
/-- A row of Int, marked from v on up to place i. -/
def mkInt64 (v : Int) (l : List Int) (i : Nat) : List Int := tabG (fun j : Nat => v + (j : Int)) i ++ l.drop i
theorem mkInt64_length (v : Int) (l : List Int) (i : Nat) (h : i ≤ l.length) : (mkInt64 v l i).length = l.length := by simp [mkInt64, tabG_length]; omega
theorem mkInt64_set (v : Int) (l : List Int) (i : Nat) (h : i < l.length) : (mkInt64 v l i).set i (v + (i : Int)) = mkInt64 v l (i + 1) := by
  unfold mkInt64
  rw [List.set_append_right _ _ (by rw [tabG_length]; exact Nat.le_refl _), tabG_length, Nat.sub_self, List.drop_eq_getElem_cons h, List.set_cons_zero, tabG_succ, List.append_assoc]
  rfl
theorem markInt64_l (v : Int) (v0 : 0 ≤ v) (v1 : v ≤ 100000000) (l : List Int) (hl : l.length ≤ 1048576) (d : Nat) : ∀ (k i : Nat), i + d = l.length → d < k → laws_markInt64S.l0 k (mkInt64 v l i) (v + (i : Int)) (i : Int) = some (v + (l.length : Int), tabG (fun j : Nat => v + (j : Int)) l.length) := by
  induction d with
  | zero =>
    intro k i hi hk
    obtain ⟨k, rfl⟩ : ∃ n, k = n + 1 := ⟨k - 1, by omega⟩
    obtain rfl : i = l.length := by omega
    rw [laws_markInt64S.l0, if_neg (by rw [mkInt64_length _ _ _ (Nat.le_refl _)]; omega)]
    simp [mkInt64]
  | succ d ih =>
    intro k i hi hk
    obtain ⟨k, rfl⟩ : ∃ n, k = n + 1 := ⟨k - 1, by omega⟩
    have t : ((i : Int)).toNat = i := by omega
    have e2 : ((i + 1 : Nat) : Int) = (i : Int) + 1 := by omega
    have e := ih k (i + 1) (by omega) (by omega)
    rw [e2, ← Int.add_assoc] at e
    rw [laws_markInt64S.l0, if_pos (by rw [mkInt64_length _ _ _ (by omega)]; omega), if_pos (by omega), t, mkInt64_set _ _ _ (by omega), w64 (n := v + (i : Int) + 1) (by omega) (by omega), w64 (by omega) (by omega)]
    exact e
theorem markInt64_f (v : Int) (v0 : 0 ≤ v) (v1 : v ≤ 100000000) (l : List Int) (hl : l.length ≤ 1048576) (k : Nat) (hk : l.length < k) : laws_markInt64S.f k l v = some (v + (l.length : Int), tabG (fun j : Nat => v + (j : Int)) l.length) := by
  have e := markInt64_l v v0 v1 l hl l.length k 0 (by omega) hk
  have e0 : v + ((0 : Nat) : Int) = v := by omega
  rw [e0] at e
  exact e
theorem heldInt64_l (v : Int) (v0 : 0 ≤ v) (v1 : v ≤ 100000000) (n : Nat) (hl : n ≤ 1048576) (d : Nat) : ∀ (k i : Nat), i + d = n → d < k → laws_heldInt64S.l0 k (tabG (fun j : Nat => v + (j : Int)) n) (v + (i : Int)) (i : Int) = some (v + (n : Int)) := by
  induction d with
  | zero =>
    intro k i hi hk
    obtain ⟨k, rfl⟩ : ∃ n, k = n + 1 := ⟨k - 1, by omega⟩
    obtain rfl : i = n := by omega
    rw [laws_heldInt64S.l0, if_neg (by rw [tabG_length]; omega)]
  | succ d ih =>
    intro k i hi hk
    obtain ⟨k, rfl⟩ : ∃ n, k = n + 1 := ⟨k - 1, by omega⟩
    have e : rd (tabG (fun j : Nat => v + (j : Int)) n) (i : Int) = v + (i : Int) := by
      have hi : i < n := by omega
      simp [rd, tabG, List.getD_eq_getElem?_getD, hi]
    have e2 : ((i + 1 : Nat) : Int) = (i : Int) + 1 := by omega
    have g := ih k (i + 1) (by omega) (by omega)
    rw [e2, ← Int.add_assoc] at g
    rw [laws_heldInt64S.l0, if_pos (by rw [tabG_length]; omega), if_pos (by omega), e, if_pos rfl, w64 (n := v + (i : Int) + 1) (by omega) (by omega), w64 (by omega) (by omega)]
    exact g
theorem heldInt64_f (v : Int) (v0 : 0 ≤ v) (v1 : v ≤ 100000000) (n : Nat) (hl : n ≤ 1048576) (k : Nat) (hk : n < k) : laws_heldInt64S.f k (tabG (fun j : Nat => v + (j : Int)) n) v = some (v + (n : Int)) := by
  have e := heldInt64_l v v0 v1 n hl n k 0 (by omega) hk
  have e0 : v + ((0 : Nat) : Int) = v := by omega
  rw [e0] at e
  exact e
/-- A row of Bool, marked from v on up to place i. -/
def mkBool (v : Int) (l : List Bool) (i : Nat) : List Bool := tabG (fun j : Nat => ((Int.tmod (v + (j : Int)) 3) == 0)) i ++ l.drop i
theorem mkBool_length (v : Int) (l : List Bool) (i : Nat) (h : i ≤ l.length) : (mkBool v l i).length = l.length := by simp [mkBool, tabG_length]; omega
theorem mkBool_set (v : Int) (l : List Bool) (i : Nat) (h : i < l.length) : (mkBool v l i).set i (((Int.tmod (v + (i : Int)) 3) == 0)) = mkBool v l (i + 1) := by
  unfold mkBool
  rw [List.set_append_right _ _ (by rw [tabG_length]; exact Nat.le_refl _), tabG_length, Nat.sub_self, List.drop_eq_getElem_cons h, List.set_cons_zero, tabG_succ, List.append_assoc]
  rfl
theorem markBool_l (v : Int) (v0 : 0 ≤ v) (v1 : v ≤ 100000000) (l : List Bool) (hl : l.length ≤ 1048576) (d : Nat) : ∀ (k i : Nat), i + d = l.length → d < k → laws_markBoolS.l0 k (mkBool v l i) (v + (i : Int)) (i : Int) = some (v + (l.length : Int), tabG (fun j : Nat => ((Int.tmod (v + (j : Int)) 3) == 0)) l.length) := by
  induction d with
  | zero =>
    intro k i hi hk
    obtain ⟨k, rfl⟩ : ∃ n, k = n + 1 := ⟨k - 1, by omega⟩
    obtain rfl : i = l.length := by omega
    rw [laws_markBoolS.l0, if_neg (by rw [mkBool_length _ _ _ (Nat.le_refl _)]; omega)]
    simp [mkBool]
  | succ d ih =>
    intro k i hi hk
    obtain ⟨k, rfl⟩ : ∃ n, k = n + 1 := ⟨k - 1, by omega⟩
    have t : ((i : Int)).toNat = i := by omega
    have e2 : ((i + 1 : Nat) : Int) = (i : Int) + 1 := by omega
    have e := ih k (i + 1) (by omega) (by omega)
    rw [e2, ← Int.add_assoc] at e
    rw [laws_markBoolS.l0, if_pos (by rw [mkBool_length _ _ _ (by omega)]; omega), if_pos (by omega), t, mkBool_set _ _ _ (by omega), w64 (n := v + (i : Int) + 1) (by omega) (by omega), w64 (by omega) (by omega)]
    exact e
theorem markBool_f (v : Int) (v0 : 0 ≤ v) (v1 : v ≤ 100000000) (l : List Bool) (hl : l.length ≤ 1048576) (k : Nat) (hk : l.length < k) : laws_markBoolS.f k l v = some (v + (l.length : Int), tabG (fun j : Nat => ((Int.tmod (v + (j : Int)) 3) == 0)) l.length) := by
  have e := markBool_l v v0 v1 l hl l.length k 0 (by omega) hk
  have e0 : v + ((0 : Nat) : Int) = v := by omega
  rw [e0] at e
  exact e
theorem pages_l (a b : Int) (l : List Int) (t : List Bool) (h1 : 1 ≤ l.length) (hl : l.length ≤ 48) (ht : t.length = l.length) (d : Nat) : ∀ (k i : Nat) (x : List Int), i + d = l.length → d < k → x.length ≤ i →
    ∃ r, spec_MappedPages.l0 k x (i : Int) a b l t = some r ∧ impl_MappedPages.l0 k x (l.length : Int) (i : Int) a b l t = some r ∧ r.length ≤ 48 := by
  induction d with
  | zero =>
    intro k i x hi hk hx
    obtain ⟨k, rfl⟩ : ∃ n, k = n + 1 := ⟨k - 1, by omega⟩
    rw [spec_MappedPages.l0, if_neg (by omega), impl_MappedPages.l0, if_neg (by omega)]
    exact ⟨x, rfl, rfl, by omega⟩
  | succ d ih =>
    intro k i x hi hk hx
    obtain ⟨k, rfl⟩ : ∃ n, k = n + 1 := ⟨k - 1, by omega⟩
    have e2 : ((i + 1 : Nat) : Int) = (i : Int) + 1 := by omega
    have hlt : (i : Int) < (l.length : Int) := by omega
    rw [spec_MappedPages.l0, impl_MappedPages.l0]
    simp only [if_pos hlt]
    rw [phys_spec a b l t h1 hl ht, phys_impl a b l t h1 hl ht]
    simp only [Option.bind_some]
    rw [w64 (by omega) (by omega), ← e2]
    by_cases c : (physR l t (i : Int)).2 = true
    · rw [if_pos c, if_pos c, if_pos (by omega), if_pos (by omega)]
      exact ih k (i + 1) (x ++ [(i : Int)]) (by omega) (by omega) (by simp; omega)
    · rw [if_neg c, if_neg c]
      exact ih k (i + 1) x (by omega) (by omega) (by omega)
theorem FnExactMappedPages : laws_FnExactMappedPages.Pure := by
  intro a b l t _ _ hl ht
  refine ⟨3000000, ?_⟩
  unfold laws_FnExactMappedPages.f
  obtain ⟨m, e1, h1, g1⟩ := sz_map a b l t hl.1 ht.1 1048576 (by omega) (by omega)
  rw [e1]
  simp only [Option.bind_some]
  by_cases c : m < 0
  · rw [if_pos c]
  · rw [if_neg c]
    have g2 := g1 (by omega)
    have t1 := to_map a b l t (by omega) (by omega) 3000000 (by omega) (by omega)
    have t2 := to_map a b l t (by omega) (by omega) 2999999 (by omega) (by omega)
    have q1 := eq_map a b l t (by omega) (by omega) 3000000 (by omega) (by omega)
    have both : ∀ k, 5000 < k → ∃ z, spec_MappedPages.f k a b l t = some z ∧ impl_MappedPages.f k a b l t = some z ∧ z.length ≤ 48 := fun k hk => by
      unfold spec_MappedPages.f impl_MappedPages.f
      simp only [Option.bind_some]
      rw [spec_map a b l t k (by omega), impl_map a b l t k (by omega)]
      simp only [Option.bind_some]
      by_cases cv : mapB a b l t = true
      · obtain ⟨v1, v2, v3⟩ := map_facts cv
        rw [if_pos cv, if_pos cv]
        exact pages_l a b l t v1 v2 v3 l.length k 0 [] (by omega) (by omega) (by simp)
      · rw [if_neg cv, if_neg cv]
        exact ⟨_, rfl, rfl, by simp⟩
    obtain ⟨z, z1, z2, z3⟩ := both 3000000 (by omega)
    have z4 : impl_MappedPages.f 2999999 a b l t = some z := by
      obtain ⟨y, y1, y2, y3⟩ := both 2999999 (by omega)
      have := impl_MappedPages.mono a b l t 2999999 y y2
      rw [show (2999999 : Nat) + 1 = 3000000 from rfl, z2] at this
      rw [y2, this]
    rw [t1]
    simp only [Option.bind_some]
    rw [z1, z2]
    simp only [Option.bind_some]
    rw [laws_eqInt64S_f z (by omega) 3000000 (by omega)]
    simp only [Option.bind_some, if_true]
    rw [q1]
    simp only [Option.bind_some, if_true]
    have mk : laws_markPageMap.f 3000000 a b l t 1 = some (1 + (l.length : Int) + (t.length : Int), tabG (fun j : Nat => 1 + (j : Int)) l.length, tabG (fun j : Nat => ((Int.tmod (1 + (l.length : Int) + (j : Int)) 3) == 0)) t.length) := by
      unfold laws_markPageMap.f
      rw [markInt64_f 1 (by omega) (by omega) l (by omega) 3000000 (by omega)]
      simp only [Option.bind_some]
      rw [markBool_f (1 + (l.length : Int)) (by omega) (by omega) t (by omega) 3000000 (by omega)]
      rfl
    rw [mk]
    simp only [Option.bind_some]
    rw [if_neg (by omega), show (!true) = false from rfl, show (3000000 : Nat) = 2999999 + 1 from rfl, laws_FnExactMappedPages.j0, if_neg (by simp), markInt64_f 1 (by omega) (by omega) z (by omega) 2999999 (by omega)]
    simp only [Option.bind_some]
    rw [heldInt64_f 1 (by omega) (by omega) z.length (by omega) 2999999 (by omega)]
    simp only [Option.bind_some]
    rw [if_neg (by omega), if_pos trivial, t2]
    simp only [Option.bind_some]
    rw [z4]
    simp only [Option.bind_some]
    rw [laws_eqInt64S_f z (by omega) 2999999 (by omega)]
    simp only [Option.bind_some, if_true]
    rw [if_neg (by omega)]

end Go.Proofs.Ytenmffpkdfbhbaa.Pure
