/- The pure statement of FnExactNewMap holds. No condition beyond the row's bounds. -/
import Derived.Test.YtenmffpkdfbhbaaQFnExactNewMapx4
import Derived.Test.YtenmffpkdfbhbaaGen
import Derived.Test.YtenmffpkdfbhbaaHand
namespace Go.Proofs.Ytenmffpkdfbhbaa.Pure
open Go.RowKit Go.Proofs.Ytenmffpkdfbhbaa.QFnExactNewMap Go.Proofs.YtenmffpkdfbhbaaW.PrintWords Go.Proofs.YtenmffpkdfbhbaaW.PrintLast
open Go.Proofs.Ytenmffpkdfbhbaa.Lem Go.Proofs.Ytenmffpkdfbhbaa.Gen Go.Proofs.Ytenmffpkdfbhbaa.Hand
theorem laws_eqInt64S_l (l : List Int) (hl : l.length ≤ 1048576) (d : Nat) : ∀ (k i : Nat), i + d = l.length → d < k → laws_eqInt64S.l0 k l l (i : Int) = some true := by
  induction d with
  | zero =>
    intro k i hi hk
    obtain ⟨k, rfl⟩ : ∃ n, k = n + 1 := ⟨k - 1, by omega⟩
    rw [laws_eqInt64S.l0, if_neg (by omega)]
  | succ d ih =>
    intro k i hi hk
    obtain ⟨k, rfl⟩ : ∃ n, k = n + 1 := ⟨k - 1, by omega⟩
    rw [laws_eqInt64S.l0, if_pos (by omega), if_pos (by omega), if_pos (by omega)]
    rw [if_pos rfl]
    rw [w64 (by omega) (by omega)]
    exact ih k (i + 1) (by omega) (by omega)
theorem laws_eqInt64S_f (l : List Int) (hl : l.length ≤ 1048576) (k : Nat) (hk : l.length < k) : laws_eqInt64S.f k l l = some true := by
  unfold laws_eqInt64S.f
  rw [if_pos rfl]
  exact laws_eqInt64S_l l hl l.length k 0 (by omega) hk
theorem laws_eqBoolS_l (l : List Bool) (hl : l.length ≤ 1048576) (d : Nat) : ∀ (k i : Nat), i + d = l.length → d < k → laws_eqBoolS.l0 k l l (i : Int) = some true := by
  induction d with
  | zero =>
    intro k i hi hk
    obtain ⟨k, rfl⟩ : ∃ n, k = n + 1 := ⟨k - 1, by omega⟩
    rw [laws_eqBoolS.l0, if_neg (by omega)]
  | succ d ih =>
    intro k i hi hk
    obtain ⟨k, rfl⟩ : ∃ n, k = n + 1 := ⟨k - 1, by omega⟩
    rw [laws_eqBoolS.l0, if_pos (by omega), if_pos (by omega), if_pos (by omega)]
    rw [if_neg (by simp)]
    rw [w64 (by omega) (by omega)]
    exact ih k (i + 1) (by omega) (by omega)
theorem laws_eqBoolS_f (l : List Bool) (hl : l.length ≤ 1048576) (k : Nat) (hk : l.length < k) : laws_eqBoolS.f k l l = some true := by
  unfold laws_eqBoolS.f
  rw [if_pos rfl]
  exact laws_eqBoolS_l l hl l.length k 0 (by omega) hk
theorem eq_map (a0 a1 : Int) (a2 : List Int) (a3 : List Bool) (h2 : a2.length ≤ 1048576) (h3 : a3.length ≤ 1048576) (k : Nat) (hk2 : a2.length < k) (hk3 : a3.length < k) : laws_eqPageMap.f k a0 a1 a2 a3 a0 a1 a2 a3 = some true := by
  unfold laws_eqPageMap.f
  rw [if_pos rfl, if_pos rfl, laws_eqInt64S_f a2 h2 k hk2]
  simp only [Option.bind_some, if_true]
  rw [laws_eqBoolS_f a3 h3 k hk3]
  rfl
theorem in_spec (x lo hi : Int) : spec_l00In.f x lo hi = some (inB x lo hi) := by
  unfold spec_l00In.f inB
  by_cases h : x ≥ lo
  · rw [if_pos h, decide_eq_true (p := lo ≤ x) h, Bool.true_and]
  · rw [if_neg h, decide_eq_false (p := lo ≤ x) h, Bool.false_and]
theorem in_impl (x lo hi : Int) : impl_within.f x lo hi = some (inB x lo hi) := by
  unfold impl_within.f inB
  by_cases h : x ≥ lo
  · rw [if_pos h, decide_eq_true (p := lo ≤ x) h, Bool.true_and]
  · rw [if_neg h, decide_eq_false (p := lo ≤ x) h, Bool.false_and]
theorem inB_iff (x lo hi : Int) : inB x lo hi = true ↔ lo ≤ x ∧ x ≤ hi := by
  unfold inB
  simp
theorem mul_rng {a b : Int} (a1 : 1 ≤ a) (a2 : a ≤ 640) (b1 : 1 ≤ b) (b2 : b ≤ 640) : 1 ≤ a * b ∧ a * b ≤ 409600 := by
  have h1 : a * b ≤ 640 * 640 := Int.mul_le_mul a2 b2 (by omega) (by omega)
  have h2 : 1 * 1 ≤ a * b := Int.mul_le_mul a1 b1 (by omega) (by omega)
  omega
theorem size_spec (n a b : Int) : spec_l09Size.f n a b = some (decide (1 ≤ n ∧ n ≤ 48 ∧ 1 ≤ a ∧ a ≤ 640 ∧ 1 ≤ b ∧ b ≤ 640 ∧ a * b ≤ 640)) := by
  unfold spec_l09Size.f
  rw [in_spec, in_spec, in_spec]
  simp only [Option.bind_some]
  by_cases c1 : inB n 1 48 = true
  · rw [if_pos c1]
    have d1 := (inB_iff _ _ _).1 c1
    by_cases c2 : inB a 1 640 = true
    · rw [if_pos c2]
      have d2 := (inB_iff _ _ _).1 c2
      by_cases c3 : inB b 1 640 = true
      · rw [if_pos c3]
        have d3 := (inB_iff _ _ _).1 c3
        obtain ⟨e1, e2⟩ := mul_rng d2.1 d2.2 d3.1 d3.2
        rw [w64 (by omega) (by omega)]
        congr 1
        apply decide_eq_decide.2
        constructor
        · intro h; exact ⟨d1.1, d1.2, d2.1, d2.2, d3.1, d3.2, h⟩
        · intro h; exact h.2.2.2.2.2.2
      · rw [if_neg c3, decide_eq_false (fun h => c3 ((inB_iff _ _ _).2 ⟨h.2.2.2.2.1, h.2.2.2.2.2.1⟩))]
    · rw [if_neg c2, decide_eq_false (fun h => c2 ((inB_iff _ _ _).2 ⟨h.2.2.1, h.2.2.2.1⟩))]
  · rw [if_neg c1, decide_eq_false (fun h => c1 ((inB_iff _ _ _).2 ⟨h.1, h.2.1⟩))]
theorem size_impl (a b : Int) : impl_sizeOk.f a b = some (decide (1 ≤ a ∧ a ≤ 640 ∧ 1 ≤ b ∧ b ≤ 640 ∧ a * b ≤ 640)) := by
  unfold impl_sizeOk.f
  rw [in_impl]
  simp only [Option.bind_some]
  by_cases c2 : inB a 1 640 = true
  · rw [if_pos c2]
    have d2 := (inB_iff _ _ _).1 c2
    rw [if_neg (by omega), in_impl]
    simp only [Option.bind_some]
    have h0 : 0 ≤ (640 : Int) / a := Int.ediv_nonneg (by omega) (by omega)
    have h1 : (640 : Int) / a ≤ 640 := Int.ediv_le_self _ (by omega)
    rw [w64 (by omega) (by omega)]
    have hiff : b ≤ 640 / a ↔ b * a ≤ 640 := Int.le_ediv_iff_mul_le (by omega)
    congr 1
    by_cases c3 : 1 ≤ b ∧ b * a ≤ 640
    · have h2 : b ≤ 640 := by have := hiff.2 c3.2; omega
      rw [(inB_iff _ _ _).2 ⟨c3.1, hiff.2 c3.2⟩, decide_eq_true]
      exact ⟨d2.1, d2.2, c3.1, h2, by rw [Int.mul_comm]; exact c3.2⟩
    · rw [decide_eq_false (fun h => c3 ⟨h.2.2.1, by rw [Int.mul_comm]; exact h.2.2.2.2⟩)]
      exact Bool.eq_false_iff.mpr (fun h => c3 ⟨((inB_iff _ _ _).1 h).1, hiff.1 ((inB_iff _ _ _).1 h).2⟩)
  · rw [if_neg c2, decide_eq_false (fun h => c2 ((inB_iff _ _ _).2 ⟨h.1, h.2.1⟩))]
/-- A row of Int, marked from v on up to place i. -/
def mkInt64 (v : Int) (l : List Int) (i : Nat) : List Int := tabG (fun j : Nat => v + (j : Int)) i ++ l.drop i
theorem mkInt64_length (v : Int) (l : List Int) (i : Nat) (h : i ≤ l.length) : (mkInt64 v l i).length = l.length := by simp [mkInt64, tabG_length]; omega
theorem mkInt64_set (v : Int) (l : List Int) (i : Nat) (h : i < l.length) : (mkInt64 v l i).set i (v + (i : Int)) = mkInt64 v l (i + 1) := by
  unfold mkInt64
  rw [List.set_append_right _ _ (by rw [tabG_length]; exact Nat.le_refl _), tabG_length, Nat.sub_self, List.drop_eq_getElem_cons h, List.set_cons_zero, tabG_succ, List.append_assoc]
  rfl
theorem markInt64_l (v : Int) (v0 : 0 ≤ v) (v1 : v ≤ 100000000) (l : List Int) (hl : l.length ≤ 1048576) (d : Nat) : ∀ (k i : Nat), i + d = l.length → d < k → laws_markInt64S.l0 k (mkInt64 v l i) (v + (i : Int)) (i : Int) = some (v + (l.length : Int), tabG (fun j : Nat => v + (j : Int)) l.length) := by
  induction d with
  | zero =>
    intro k i hi hk
    obtain ⟨k, rfl⟩ : ∃ n, k = n + 1 := ⟨k - 1, by omega⟩
    obtain rfl : i = l.length := by omega
    rw [laws_markInt64S.l0, if_neg (by rw [mkInt64_length _ _ _ (Nat.le_refl _)]; omega)]
    simp [mkInt64]
  | succ d ih =>
    intro k i hi hk
    obtain ⟨k, rfl⟩ : ∃ n, k = n + 1 := ⟨k - 1, by omega⟩
    have t : ((i : Int)).toNat = i := by omega
    have e2 : ((i + 1 : Nat) : Int) = (i : Int) + 1 := by omega
    have e := ih k (i + 1) (by omega) (by omega)
    rw [e2, ← Int.add_assoc] at e
    rw [laws_markInt64S.l0, if_pos (by rw [mkInt64_length _ _ _ (by omega)]; omega), if_pos (by omega), t, mkInt64_set _ _ _ (by omega), w64 (n := v + (i : Int) + 1) (by omega) (by omega), w64 (by omega) (by omega)]
    exact e
theorem markInt64_f (v : Int) (v0 : 0 ≤ v) (v1 : v ≤ 100000000) (l : List Int) (hl : l.length ≤ 1048576) (k : Nat) (hk : l.length < k) : laws_markInt64S.f k l v = some (v + (l.length : Int), tabG (fun j : Nat => v + (j : Int)) l.length) := by
  have e := markInt64_l v v0 v1 l hl l.length k 0 (by omega) hk
  have e0 : v + ((0 : Nat) : Int) = v := by omega
  rw [e0] at e
  exact e
theorem heldInt64_l (v : Int) (v0 : 0 ≤ v) (v1 : v ≤ 100000000) (n : Nat) (hl : n ≤ 1048576) (d : Nat) : ∀ (k i : Nat), i + d = n → d < k → laws_heldInt64S.l0 k (tabG (fun j : Nat => v + (j : Int)) n) (v + (i : Int)) (i : Int) = some (v + (n : Int)) := by
  induction d with
  | zero =>
    intro k i hi hk
    obtain ⟨k, rfl⟩ : ∃ n, k = n + 1 := ⟨k - 1, by omega⟩
    obtain rfl : i = n := by omega
    rw [laws_heldInt64S.l0, if_neg (by rw [tabG_length]; omega)]
  | succ d ih =>
    intro k i hi hk
    obtain ⟨k, rfl⟩ : ∃ n, k = n + 1 := ⟨k - 1, by omega⟩
    have e : rd (tabG (fun j : Nat => v + (j : Int)) n) (i : Int) = v + (i : Int) := by
      have hi : i < n := by omega
      simp [rd, tabG, List.getD_eq_getElem?_getD, hi]
    have e2 : ((i + 1 : Nat) : Int) = (i : Int) + 1 := by omega
    have g := ih k (i + 1) (by omega) (by omega)
    rw [e2, ← Int.add_assoc] at g
    rw [laws_heldInt64S.l0, if_pos (by rw [tabG_length]; omega), if_pos (by omega), e, if_pos rfl, w64 (n := v + (i : Int) + 1) (by omega) (by omega), w64 (by omega) (by omega)]
    exact g
theorem heldInt64_f (v : Int) (v0 : 0 ≤ v) (v1 : v ≤ 100000000) (n : Nat) (hl : n ≤ 1048576) (k : Nat) (hk : n < k) : laws_heldInt64S.f k (tabG (fun j : Nat => v + (j : Int)) n) v = some (v + (n : Int)) := by
  have e := heldInt64_l v v0 v1 n hl n k 0 (by omega) hk
  have e0 : v + ((0 : Nat) : Int) = v := by omega
  rw [e0] at e
  exact e
/-- A row of Bool, marked from v on up to place i. -/
def mkBool (v : Int) (l : List Bool) (i : Nat) : List Bool := tabG (fun j : Nat => ((Int.tmod (v + (j : Int)) 3) == 0)) i ++ l.drop i
theorem mkBool_length (v : Int) (l : List Bool) (i : Nat) (h : i ≤ l.length) : (mkBool v l i).length = l.length := by simp [mkBool, tabG_length]; omega
theorem mkBool_set (v : Int) (l : List Bool) (i : Nat) (h : i < l.length) : (mkBool v l i).set i (((Int.tmod (v + (i : Int)) 3) == 0)) = mkBool v l (i + 1) := by
  unfold mkBool
  rw [List.set_append_right _ _ (by rw [tabG_length]; exact Nat.le_refl _), tabG_length, Nat.sub_self, List.drop_eq_getElem_cons h, List.set_cons_zero, tabG_succ, List.append_assoc]
  rfl
theorem markBool_l (v : Int) (v0 : 0 ≤ v) (v1 : v ≤ 100000000) (l : List Bool) (hl : l.length ≤ 1048576) (d : Nat) : ∀ (k i : Nat), i + d = l.length → d < k → laws_markBoolS.l0 k (mkBool v l i) (v + (i : Int)) (i : Int) = some (v + (l.length : Int), tabG (fun j : Nat => ((Int.tmod (v + (j : Int)) 3) == 0)) l.length) := by
  induction d with
  | zero =>
    intro k i hi hk
    obtain ⟨k, rfl⟩ : ∃ n, k = n + 1 := ⟨k - 1, by omega⟩
    obtain rfl : i = l.length := by omega
    rw [laws_markBoolS.l0, if_neg (by rw [mkBool_length _ _ _ (Nat.le_refl _)]; omega)]
    simp [mkBool]
  | succ d ih =>
    intro k i hi hk
    obtain ⟨k, rfl⟩ : ∃ n, k = n + 1 := ⟨k - 1, by omega⟩
    have t : ((i : Int)).toNat = i := by omega
    have e2 : ((i + 1 : Nat) : Int) = (i : Int) + 1 := by omega
    have e := ih k (i + 1) (by omega) (by omega)
    rw [e2, ← Int.add_assoc] at e
    rw [laws_markBoolS.l0, if_pos (by rw [mkBool_length _ _ _ (by omega)]; omega), if_pos (by omega), t, mkBool_set _ _ _ (by omega), w64 (n := v + (i : Int) + 1) (by omega) (by omega), w64 (by omega) (by omega)]
    exact e
theorem markBool_f (v : Int) (v0 : 0 ≤ v) (v1 : v ≤ 100000000) (l : List Bool) (hl : l.length ≤ 1048576) (k : Nat) (hk : l.length < k) : laws_markBoolS.f k l v = some (v + (l.length : Int), tabG (fun j : Nat => ((Int.tmod (v + (j : Int)) 3) == 0)) l.length) := by
  have e := markBool_l v v0 v1 l hl l.length k 0 (by omega) hk
  have e0 : v + ((0 : Nat) : Int) = v := by omega
  rw [e0] at e
  exact e
theorem heldBool_l (v : Int) (v0 : 0 ≤ v) (v1 : v ≤ 100000000) (n : Nat) (hl : n ≤ 1048576) (d : Nat) : ∀ (k i : Nat), i + d = n → d < k → laws_heldBoolS.l0 k (tabG (fun j : Nat => ((Int.tmod (v + (j : Int)) 3) == 0)) n) (v + (i : Int)) (i : Int) = some (v + (n : Int)) := by
  induction d with
  | zero =>
    intro k i hi hk
    obtain ⟨k, rfl⟩ : ∃ n, k = n + 1 := ⟨k - 1, by omega⟩
    obtain rfl : i = n := by omega
    rw [laws_heldBoolS.l0, if_neg (by rw [tabG_length]; omega)]
  | succ d ih =>
    intro k i hi hk
    obtain ⟨k, rfl⟩ : ∃ n, k = n + 1 := ⟨k - 1, by omega⟩
    have e : rdOf false (tabG (fun j : Nat => ((Int.tmod (v + (j : Int)) 3) == 0)) n) (i : Int) = ((Int.tmod (v + (i : Int)) 3) == 0) := by
      have hi : i < n := by omega
      simp [rdOf, tabG, List.getD_eq_getElem?_getD, hi]
    have e2 : ((i + 1 : Nat) : Int) = (i : Int) + 1 := by omega
    have g := ih k (i + 1) (by omega) (by omega)
    rw [e2, ← Int.add_assoc] at g
    rw [laws_heldBoolS.l0, if_pos (by rw [tabG_length]; omega), if_pos (by omega), e, if_neg (by simp), w64 (n := v + (i : Int) + 1) (by omega) (by omega), w64 (by omega) (by omega)]
    exact g
theorem heldBool_f (v : Int) (v0 : 0 ≤ v) (v1 : v ≤ 100000000) (n : Nat) (hl : n ≤ 1048576) (k : Nat) (hk : n < k) : laws_heldBoolS.f k (tabG (fun j : Nat => ((Int.tmod (v + (j : Int)) 3) == 0)) n) v = some (v + (n : Int)) := by
  have e := heldBool_l v v0 v1 n hl n k 0 (by omega) hk
  have e0 : v + ((0 : Nat) : Int) = v := by omega
  rw [e0] at e
  exact e
theorem new_l (a b : Int) (n : Nat) (hn : n ≤ 48) (d : Nat) : ∀ (k i : Nat), i + d = n → d < k → spec_l09New.l0 k (n : Int) (i : Int) a b (List.replicate i (-1)) (List.replicate i false) = some (a, b, List.replicate n (-1), List.replicate n false) := by
  induction d with
  | zero =>
    intro k i hi hk
    obtain ⟨k, rfl⟩ : ∃ n, k = n + 1 := ⟨k - 1, by omega⟩
    obtain rfl : i = n := by omega
    rw [spec_l09New.l0, if_neg (by omega)]
  | succ d ih =>
    intro k i hi hk
    obtain ⟨k, rfl⟩ : ∃ n, k = n + 1 := ⟨k - 1, by omega⟩
    have e2 : ((i + 1 : Nat) : Int) = (i : Int) + 1 := by omega
    have e := ih k (i + 1) (by omega) (by omega)
    rw [e2, List.replicate_succ', List.replicate_succ'] at e
    rw [spec_l09New.l0, if_pos (by omega), if_pos (by rw [List.length_replicate]; omega), if_pos (by rw [List.length_replicate]; omega), w64 (by omega) (by omega)]
    exact e
theorem new_both (x a b : Int) (k : Nat) (hk : 100 < k) : ∃ (p q : Int) (l : List Int) (t : List Bool) (c : Int), spec_NewMap.f k x a b = some (p, q, l, t, c) ∧ impl_NewMap.f x a b = some (p, q, l, t, c) ∧ l.length ≤ 48 ∧ t.length ≤ 48 := by
  unfold spec_NewMap.f impl_NewMap.f impl_newMap.f
  rw [size_spec, in_impl, size_impl]
  simp only [Option.bind_some]
  by_cases c : 1 ≤ a ∧ a ≤ 640 ∧ 1 ≤ b ∧ b ≤ 640 ∧ a * b ≤ 640
  · by_cases c1 : 1 ≤ x ∧ x ≤ 48
    · obtain ⟨n, rfl⟩ : ∃ n : Nat, x = n := ⟨x.toNat, by omega⟩
      rw [decide_eq_true (p := 1 ≤ (n : Int) ∧ _) ⟨c1.1, c1.2, c⟩, if_pos rfl, (inB_iff _ _ _).2 c1, if_pos rfl, decide_eq_true c, if_pos rfl]
      unfold spec_l09New.f slices_Repeat_int64_int64.f
      have e := new_l a b n (by omega) n k 0 (by omega) (by omega)
      have e0 : ((0 : Nat) : Int) = 0 := rfl
      rw [e0] at e
      have e' : spec_l09New.l0 k (n : Int) 0 a b [] [] = some (a, b, List.replicate n (-1), List.replicate n false) := e
      have tn : ((n : Int)).toNat = n := by omega
      rw [e', if_pos ⟨rfl, c1.1, c1.2⟩, tn]
      simp only [Option.bind_some]
      rw [if_pos (by omega), if_pos (by omega)]
      simp only [Option.bind_some, if_true]
      exact ⟨a, b, List.replicate n (-1), List.replicate n false, 0, rfl, rfl, by rw [List.length_replicate]; omega, by rw [List.length_replicate]; omega⟩
    · rw [decide_eq_false (p := 1 ≤ x ∧ _) (fun h => c1 ⟨h.1, h.2.1⟩), if_neg (by simp), Bool.eq_false_iff.mpr (fun h => c1 ((inB_iff _ _ _).1 h)), if_neg (by simp)]
      simp only [Option.bind_some]
      rw [if_neg (by simp)]
      exact ⟨0, 0, [], [], 2, rfl, rfl, by simp, by simp⟩
  · rw [decide_eq_false (p := 1 ≤ x ∧ _) (fun h => c h.2.2), if_neg (by simp), decide_eq_false c]
    by_cases c1 : inB x 1 48 = true
    · rw [if_pos c1, if_neg (by simp)]
      simp only [Option.bind_some]
      rw [if_neg (by simp)]
      exact ⟨0, 0, [], [], 2, rfl, rfl, by simp, by simp⟩
    · rw [if_neg c1]
      simp only [Option.bind_some]
      rw [if_neg (by simp)]
      exact ⟨0, 0, [], [], 2, rfl, rfl, by simp, by simp⟩
theorem FnExactNewMap : laws_FnExactNewMap.Pure := by
  intro x a b _ _ _
  refine ⟨1002, ?_⟩
  unfold laws_FnExactNewMap.f
  obtain ⟨p, q, l, t, c, z1, z2, hl, ht⟩ := new_both x a b 1002 (by omega)
  have q1 := eq_map p q l t (by omega) (by omega) 1002 (by omega) (by omega)
  have q2 := eq_map p q l t (by omega) (by omega) 1001 (by omega) (by omega)
  have mk : laws_markPageMap.f 1001 p q l t 1 = some (1 + (l.length : Int) + (t.length : Int), tabG (fun j : Nat => 1 + (j : Int)) l.length, tabG (fun j : Nat => ((Int.tmod (1 + (l.length : Int) + (j : Int)) 3) == 0)) t.length) := by
    unfold laws_markPageMap.f
    rw [markInt64_f 1 (by omega) (by omega) l (by omega) 1001 (by omega)]
    simp only [Option.bind_some]
    rw [markBool_f (1 + (l.length : Int)) (by omega) (by omega) t (by omega) 1001 (by omega)]
    rfl
  have hd : ∀ k, 100 < k → laws_heldPageMap.f k p q (tabG (fun j : Nat => 1 + (j : Int)) l.length) (tabG (fun j : Nat => ((Int.tmod (1 + (l.length : Int) + (j : Int)) 3) == 0)) t.length) 1 = some (1 + (l.length : Int) + (t.length : Int)) := by
    intro k hk
    unfold laws_heldPageMap.f
    rw [heldInt64_f 1 (by omega) (by omega) l.length (by omega) k (by omega)]
    simp only [Option.bind_some]
    rw [if_neg (by omega), heldBool_f (1 + (l.length : Int)) (by omega) (by omega) t.length (by omega) k (by omega)]
    simp only [Option.bind_some]
    rw [if_neg (by omega)]
  rw [z1, z2]
  simp only [Option.bind_some]
  rw [q1]
  simp only [Option.bind_some, if_true]
  rw [show (c != c) = false by simp, show (1002 : Nat) = 1001 + 1 from rfl, laws_FnExactNewMap.j0, if_neg (by simp), mk]
  simp only [Option.bind_some]
  rw [hd 1001 (by omega)]
  simp only [Option.bind_some]
  rw [if_neg (by omega), if_pos trivial, z2]
  simp only [Option.bind_some]
  rw [q2]
  simp only [Option.bind_some, if_true]
  rw [show (c != c) = false by simp, show (1001 : Nat) = 1000 + 1 from rfl, laws_FnExactNewMap.j1, if_neg (by simp), hd 1000 (by omega)]
  simp only [Option.bind_some]
  rw [if_neg (by omega), if_pos trivial]

end Go.Proofs.Ytenmffpkdfbhbaa.Pure
