/- The pure statement of FnExactNewBadTable holds: both forms of the table's check answer the same. No condition beyond the row's bounds. -/
import Derived.Test.YtchpgjhbmeokaaaVQFnExactNewBadTablex9
import Derived.Test.YtchpgjhbmeokaaaVLem
import Derived.Test.YtchpgjhbmeokaaaVGen
namespace Go.Proofs.Ytchpgjhbmeokaaa.Pure
open Go.RowKit Go.Proofs.Ytchpgjhbmeokaaa.QFnExactNewBadTable Go.Proofs.YtchpgjhbmeokaaaW.PrintWords Go.Proofs.YtchpgjhbmeokaaaW.PrintLast

open Go.Proofs.Ytchpgjhbmeokaaa.Lem Go.Proofs.Ytchpgjhbmeokaaa.Gen
theorem laws_toInt64S_l (l : List Int) (hl : l.length ≤ 1048576) (d : Nat) : ∀ (k i : Nat), i + d = l.length → d < k →
    laws_toInt64S.l0 k l (fillG (0 : Int) (fun j : Nat => rd l (j : Int)) l.length i) (i : Int) = some (tabG (fun j : Nat => rd l (j : Int)) l.length) := by
  induction d with
  | zero =>
    intro k i hi hk
    obtain ⟨k, rfl⟩ : ∃ n, k = n + 1 := ⟨k - 1, by omega⟩
    obtain rfl : i = l.length := by omega
    rw [laws_toInt64S.l0, if_neg (by omega), fillG_all]
  | succ d ih =>
    intro k i hi hk
    obtain ⟨k, rfl⟩ : ∃ n, k = n + 1 := ⟨k - 1, by omega⟩
    have t : ((i : Int)).toNat = i := by omega
    rw [laws_toInt64S.l0, if_pos (by omega), if_pos (by omega)]
    rw [if_pos (by rw [fillG_length _ _ _ _ (by omega)]; omega), w64 (by omega) (by omega)]
    have e := ih k (i + 1) (by omega) (by omega)
    rw [← fillG_set (0 : Int) (fun j : Nat => rd l (j : Int)) l.length i (by omega)] at e
    have e2 : ((i + 1 : Nat) : Int) = (i : Int) + 1 := by omega
    rw [e2] at e
    rw [t]
    exact e
theorem laws_toInt64S_f (l : List Int) (hl : l.length ≤ 1048576) (k : Nat) (hk : l.length < k) : laws_toInt64S.f k l = some (l) := by
  unfold laws_toInt64S.f
  have t : ((l.length : Int)).toNat = l.length := by omega
  rw [if_pos (by omega), t, if_pos (by omega), ← fillG_zero (0 : Int) (fun j : Nat => rd l (j : Int))]
  have e := laws_toInt64S_l l hl l.length k 0 (by omega) hk
  have e0 : ((0 : Nat) : Int) = 0 := rfl
  rw [e0] at e
  rw [e, show tabG (fun j : Nat => rd l (j : Int)) l.length = l from tabG_id l 0]
theorem laws_eqInt64S_l (l : List Int) (hl : l.length ≤ 1048576) (d : Nat) : ∀ (k i : Nat), i + d = l.length → d < k → laws_eqInt64S.l0 k l l (i : Int) = some true := by
  induction d with
  | zero =>
    intro k i hi hk
    obtain ⟨k, rfl⟩ : ∃ n, k = n + 1 := ⟨k - 1, by omega⟩
    rw [laws_eqInt64S.l0, if_neg (by omega)]
  | succ d ih =>
    intro k i hi hk
    obtain ⟨k, rfl⟩ : ∃ n, k = n + 1 := ⟨k - 1, by omega⟩
    rw [laws_eqInt64S.l0, if_pos (by omega), if_pos (by omega), if_pos (by omega)]
    rw [if_pos rfl]
    rw [w64 (by omega) (by omega)]
    exact ih k (i + 1) (by omega) (by omega)
theorem laws_eqInt64S_f (l : List Int) (hl : l.length ≤ 1048576) (k : Nat) (hk : l.length < k) : laws_eqInt64S.f k l l = some true := by
  unfold laws_eqInt64S.f
  rw [if_pos rfl]
  exact laws_eqInt64S_l l hl l.length k 0 (by omega) hk
theorem eq_bt (a0 a1 a2 a3 : Int) (a4 a5 : List Int) (h4 : a4.length ≤ 1048576) (h5 : a5.length ≤ 1048576) (k : Nat) (hk4 : a4.length < k) (hk5 : a5.length < k) : laws_eqBadTable.f k a0 a1 a2 a3 a4 a5 a0 a1 a2 a3 a4 a5 = some true := by
  unfold laws_eqBadTable.f laws_eqGeometry.f
  rw [if_pos rfl, if_pos rfl, if_pos rfl]
  simp only [Option.bind_some, if_true]
  rw [laws_eqInt64S_f a4 h4 k hk4]
  simp only [Option.bind_some, if_true]
  rw [laws_eqInt64S_f a5 h5 k hk5]
  rfl
theorem rd_at (l : List Int) (i : Nat) (h : i < l.length) : rd l (i : Int) = l[i] := by
  simp [rd, List.getD_eq_getElem?_getD, h]
def inB (x lo hi : Int) : Bool := decide (lo ≤ x) && decide (x ≤ hi)
theorem inB_true {x lo hi : Int} (h : inB x lo hi = true) : lo ≤ x ∧ x ≤ hi := by simpa [inB] using h
theorem inB_mk {x lo hi : Int} (h0 : lo ≤ x) (h1 : x ≤ hi) : inB x lo hi = true := by simp [inB, h0, h1]
theorem inB_false {x lo hi : Int} (h : ¬ (lo ≤ x ∧ x ≤ hi)) : inB x lo hi = false := by
  cases e : inB x lo hi with
  | false => rfl
  | true => exact absurd (inB_true e) h
theorem sin_f (x lo hi : Int) : spec_l00In.f x lo hi = some (inB x lo hi) := by
  unfold spec_l00In.f inB
  by_cases h : x ≥ lo
  · rw [if_pos h]
    have h2 : lo ≤ x := h
    simp [h2]
  · rw [if_neg h]
    have h2 : ¬ lo ≤ x := h
    simp [h2]
theorem iin_f (x lo hi : Int) : impl_within.f x lo hi = some (inB x lo hi) := by
  unfold impl_within.f inB
  by_cases h : x ≥ lo
  · rw [if_pos h]
    have h2 : lo ≤ x := h
    simp [h2]
  · rw [if_neg h]
    have h2 : ¬ lo ≤ x := h
    simp [h2]
theorem inB_iff (x lo hi : Int) : inB x lo hi = true ↔ lo ≤ x ∧ x ≤ hi := by simp [inB]
theorem mem_drop (l : List Int) (i : Nat) (x : Int) (h : i < l.length) : x ∈ l.drop i ↔ x = l[i] ∨ x ∈ l.drop (i + 1) := by
  rw [List.drop_eq_getElem_cons h, List.mem_cons]
theorem has_l (l : List Int) (hl : l.length ≤ 1048576) (x : Int) (d : Nat) : ∀ (k i : Nat), i + d = l.length → d < k → spec_l00Has.l0 k l x (i : Int) = some (decide (x ∈ l.drop i)) := by
  induction d with
  | zero =>
    intro k i hi hk
    obtain ⟨k, rfl⟩ : ∃ n, k = n + 1 := ⟨k - 1, by omega⟩
    rw [spec_l00Has.l0, if_neg (by omega), List.drop_eq_nil_of_le (by omega)]
    simp
  | succ d ih =>
    intro k i hi hk
    obtain ⟨k, rfl⟩ : ∃ n, k = n + 1 := ⟨k - 1, by omega⟩
    have hlt : i < l.length := by omega
    have e := ih k (i + 1) (by omega) (by omega)
    have e2 : ((i + 1 : Nat) : Int) = (i : Int) + 1 := by omega
    rw [e2] at e
    have er : rd l (i : Int) = l[i] := rd_at l i hlt
    rw [spec_l00Has.l0, if_pos (by omega), if_pos (by omega), er]
    have hm := mem_drop l i x hlt
    by_cases c : l[i] = x
    · rw [if_pos c, decide_eq_true (hm.2 (Or.inl c.symm))]
    · rw [if_neg c, w64 (by omega) (by omega), e]
      exact congrArg some (decide_eq_decide.2 ⟨fun h => hm.2 (Or.inr h), fun h => (hm.1 h).resolve_left (fun h => c h.symm)⟩)
theorem has_f (l : List Int) (hl : l.length ≤ 1048576) (x : Int) (k : Nat) (hk : l.length < k) : spec_l00Has.f k l x = some (decide (x ∈ l)) := by
  have e := has_l l hl x l.length k 0 (by omega) hk
  have e0 : ((0 : Nat) : Int) = 0 := rfl
  rw [e0, List.drop_zero] at e
  exact e
theorem ind_l (l : List Int) (hl : l.length ≤ 1048576) (x : Int) (d : Nat) : ∀ (k i : Nat), i + d = l.length → d < k → ∃ r, slices_Index_int64_int64.l0 k l x (l.length : Int) (i : Int) = some r ∧ decide (r ≥ 0) = decide (x ∈ l.drop i) ∧ (r < 0 → r = -1) := by
  induction d with
  | zero =>
    intro k i hi hk
    obtain ⟨k, rfl⟩ : ∃ n, k = n + 1 := ⟨k - 1, by omega⟩
    rw [slices_Index_int64_int64.l0, if_neg (by omega), List.drop_eq_nil_of_le (by omega)]
    exact ⟨-1, rfl, by simp, fun _ => rfl⟩
  | succ d ih =>
    intro k i hi hk
    obtain ⟨k, rfl⟩ : ∃ n, k = n + 1 := ⟨k - 1, by omega⟩
    have hlt : i < l.length := by omega
    obtain ⟨r, e, g, g2⟩ := ih k (i + 1) (by omega) (by omega)
    have e2 : ((i + 1 : Nat) : Int) = (i : Int) + 1 := by omega
    rw [e2] at e
    have er : rd l (i : Int) = l[i] := rd_at l i hlt
    rw [slices_Index_int64_int64.l0, if_pos (by omega), if_pos (by omega), if_pos (by omega), er]
    have hm := mem_drop l i x hlt
    by_cases c : x = l[i]
    · rw [if_pos c]
      exact ⟨i, rfl, by rw [decide_eq_true (hm.2 (Or.inl c))]; exact decide_eq_true (by omega), fun h => by omega⟩
    · rw [if_neg c, w64 (by omega) (by omega), e]
      exact ⟨r, rfl, by rw [g]; exact decide_eq_decide.2 ⟨fun h => hm.2 (Or.inr h), fun h => (hm.1 h).resolve_left c⟩, g2⟩
theorem con_f (l : List Int) (hl : l.length ≤ 1048576) (x : Int) (k : Nat) (hk : l.length < k) : slices_Contains_int64_int64.f k l x = some (decide (x ∈ l)) := by
  obtain ⟨r, e, g, _⟩ := ind_l l hl x l.length k 0 (by omega) hk
  have e0 : ((0 : Nat) : Int) = 0 := rfl
  rw [e0] at e
  rw [List.drop_zero] at g
  unfold slices_Contains_int64_int64.f slices_Index_int64_int64.f
  rw [e, Option.bind_some, g]
theorem rise_l (l : List Int) (hl : l.length ≤ 1048576) (lo up : Int) (d : Nat) : ∀ (k i : Nat), i + d = l.length → d < k → ∃ b, spec_l00Rises.l0 k l lo up (i : Int) = some b ∧ (b = true ↔ ∀ j, i ≤ j → j < l.length → (lo ≤ l.getD j 0 ∧ l.getD j 0 ≤ up) ∧ (0 < j → l.getD (j - 1) 0 < l.getD j 0)) := by
  induction d with
  | zero =>
    intro k i hi hk
    obtain ⟨k, rfl⟩ : ∃ n, k = n + 1 := ⟨k - 1, by omega⟩
    rw [spec_l00Rises.l0, if_neg (by omega)]
    exact ⟨true, rfl, by simp; intro j h1 h2; omega⟩
  | succ d ih =>
    intro k i hi hk
    obtain ⟨k, rfl⟩ : ∃ n, k = n + 1 := ⟨k - 1, by omega⟩
    obtain ⟨b, e, g⟩ := ih k (i + 1) (by omega) (by omega)
    have e2 : ((i + 1 : Nat) : Int) = (i : Int) + 1 := by omega
    rw [e2] at e
    have er : rd l (i : Int) = l.getD i 0 := by simp [rd]
    rw [spec_l00Rises.l0, if_pos (by omega), if_pos (by omega), sin_f, er]
    simp only [Option.bind_some]
    by_cases c : inB (l.getD i 0) lo up = true
    · rw [if_pos c]
      rw [inB_iff] at c
      by_cases c2 : (i : Int) > 0
      · have er2 : rd l (wrap64 ((i : Int) - 1)) = l.getD (i - 1) 0 := by
          rw [w64 (by omega) (by omega), show (i : Int) - 1 = ((i - 1 : Nat) : Int) by omega]
          simp [rd]
        rw [if_pos c2, if_pos (by rw [w64 (by omega) (by omega)]; omega), if_pos (by rw [w64 (by omega) (by omega)]; omega), er2]
        by_cases c3 : l.getD (i - 1) 0 ≥ l.getD i 0
        · rw [if_pos c3]
          refine ⟨false, rfl, by simp, fun h => ?_⟩
          have := (h i (Nat.le_refl _) (by omega)).2 (by omega)
          omega
        · rw [if_neg c3, w64 (by omega) (by omega), e]
          refine ⟨b, rfl, ?_⟩
          rw [g]
          constructor
          · intro h j h1 h2
            by_cases q : j = i
            · subst q
              exact ⟨c, fun _ => by omega⟩
            · exact h j (by omega) h2
          · intro h j h1 h2
            exact h j (by omega) h2
      · rw [if_neg c2, w64 (by omega) (by omega), e]
        refine ⟨b, rfl, ?_⟩
        rw [g]
        constructor
        · intro h j h1 h2
          by_cases q : j = i
          · subst q
            exact ⟨c, fun _ => by omega⟩
          · exact h j (by omega) h2
        · intro h j h1 h2
          exact h j (by omega) h2
    · rw [if_neg c]
      rw [inB_iff] at c
      refine ⟨false, rfl, by simp, fun h => ?_⟩
      exact absurd (h i (Nat.le_refl _) (by omega)).1 c
theorem incr_l (l : List Int) (hl : l.length ≤ 1048576) (d : Nat) : ∀ (k i : Nat), i + d = l.length → 1 ≤ i → d < k → ∃ b, impl_increasing.l0 k l (i : Int) = some b ∧ (b = true ↔ ∀ j, i ≤ j → j < l.length → l.getD (j - 1) 0 < l.getD j 0) := by
  induction d with
  | zero =>
    intro k i hi h1 hk
    obtain ⟨k, rfl⟩ : ∃ n, k = n + 1 := ⟨k - 1, by omega⟩
    rw [impl_increasing.l0, if_neg (by omega)]
    exact ⟨true, rfl, by simp; intro j h1 h2; omega⟩
  | succ d ih =>
    intro k i hi h1 hk
    obtain ⟨k, rfl⟩ : ∃ n, k = n + 1 := ⟨k - 1, by omega⟩
    obtain ⟨b, e, g⟩ := ih k (i + 1) (by omega) (by omega) (by omega)
    have e2 : ((i + 1 : Nat) : Int) = (i : Int) + 1 := by omega
    rw [e2] at e
    have er : rd l (i : Int) = l.getD i 0 := by simp [rd]
    have er2 : rd l (wrap64 ((i : Int) - 1)) = l.getD (i - 1) 0 := by
      rw [w64 (by omega) (by omega), show (i : Int) - 1 = ((i - 1 : Nat) : Int) by omega]
      simp [rd]
    rw [impl_increasing.l0, if_pos (by omega), if_pos (by omega), if_pos (by rw [w64 (by omega) (by omega)]; omega), if_pos (by rw [w64 (by omega) (by omega)]; omega), er, er2]
    by_cases c3 : l.getD i 0 ≤ l.getD (i - 1) 0
    · rw [if_pos c3]
      refine ⟨false, rfl, by simp, fun h => ?_⟩
      have := h i (Nat.le_refl _) (by omega)
      omega
    · rw [if_neg c3, w64 (by omega) (by omega), e]
      refine ⟨b, rfl, ?_⟩
      rw [g]
      constructor
      · intro h j q1 q2
        by_cases q : j = i
        · subst q
          omega
        · exact h j (by omega) q2
      · intro h j q1 q2
        exact h j (by omega) q2
theorem incr_f (l : List Int) (hl : l.length ≤ 1048576) (k : Nat) (hk : l.length < k) : ∃ b, impl_increasing.f k l = some b ∧ (b = true ↔ ∀ j, 1 ≤ j → j < l.length → l.getD (j - 1) 0 < l.getD j 0) := by
  unfold impl_increasing.f
  by_cases c : l.length = 0
  · obtain ⟨k, rfl⟩ : ∃ n, k = n + 1 := ⟨k - 1, by omega⟩
    rw [impl_increasing.l0, if_neg (by omega)]
    exact ⟨true, rfl, by simp; intro j h1 h2; omega⟩
  · exact incr_l l hl (l.length - 1) k 1 (by omega) (Nat.le_refl _) (by omega)
theorem aw_iff (l : List Int) (lo hi : Int) : (!(l.any (fun x => !(Hand.inB x lo hi)))) = true ↔ ∀ j, j < l.length → lo ≤ l.getD j 0 ∧ l.getD j 0 ≤ hi := by
  have q : ∀ x, Hand.inB x lo hi = true ↔ lo ≤ x ∧ x ≤ hi := fun x => by simp [Hand.inB]
  constructor
  · intro h j hj
    have h2 : ∀ x ∈ l, Hand.inB x lo hi = true := by simpa using h
    rw [← q]
    have : l.getD j 0 = l[j] := by simp [List.getD_eq_getElem?_getD, hj]
    rw [this]
    exact h2 _ (List.getElem_mem hj)
  · intro h
    have : ∀ x ∈ l, Hand.inB x lo hi = true := by
      intro x hx
      obtain ⟨j, hj, rfl⟩ := List.getElem_of_mem hx
      have e := h j hj
      have e2 : l.getD j 0 = l[j] := by simp [List.getD_eq_getElem?_getD, hj]
      rw [e2] at e
      exact (q _).2 e
    simpa using this
/-- Both checks of a list of blocks answer the same. -/
theorem rises_eq (a0 a1 a2 : Int) (l : List Int) (hl : l.length ≤ 1048576) (k : Nat) (hk : l.length < k) : ∃ b, spec_l00Rises.f k l 0 (wrap64 (wrap64 (a0 * a1) - 1)) = some b ∧ impl_blocksOk.f k a0 a1 a2 l = some b := by
  obtain ⟨b, e, g⟩ := rise_l l hl 0 (wrap64 (wrap64 (a0 * a1) - 1)) l.length k 0 (by omega) hk
  have e0 : ((0 : Nat) : Int) = 0 := rfl
  rw [e0] at e
  refine ⟨b, e, ?_⟩
  obtain ⟨c, e1, g1⟩ := incr_f l hl k hk
  unfold impl_blocksOk.f impl_Geometry_all.f impl_allWithin.f
  rw [e1]
  simp only [Option.bind_some]
  have h := aw_iff l 0 (wrap64 (wrap64 (a0 * a1) - 1))
  cases c with
  | false =>
    rw [if_neg (by simp)]
    cases b with
    | false => rfl
    | true =>
      exact absurd (g1.2 (fun j h1 h2 => (g.1 rfl j (Nat.zero_le _) h2).2 (by omega))) (by simp)
  | true =>
    rw [if_pos rfl]
    have g2 := g1.1 rfl
    refine congrArg some ?_
    refine Bool.eq_iff_iff.2 ?_
    rw [h, g]
    constructor
    · intro q j _ hj
      exact ⟨q j hj, fun h0 => g2 j h0 hj⟩
    · intro q j hj
      exact (q j (Nat.zero_le _) hj).1
def hom (B S i : Int) : Int := wrap64 ((wrap64 ((wrap64 (Int.tdiv i (wrap64 (B - S)))) * B)) + (Int.tmod i (wrap64 (B - S))))
theorem hom_range (B S i : Int) (hB : 4 ≤ B ∧ B ≤ 12) (hS : 1 ≤ S ∧ S < B - 1) (hi : 0 ≤ i ∧ i ≤ 36) : 0 ≤ hom B S i ∧ hom B S i ≤ 1000 := by
  unfold hom
  rw [w64 (n := B - S) (by omega) (by omega)]
  have t1 : 0 ≤ Int.tdiv i (B - S) := Int.tdiv_nonneg hi.1 (by omega)
  have t2 : Int.tdiv i (B - S) ≤ i := by
    rw [Int.tdiv_eq_ediv_of_nonneg hi.1]
    exact Int.ediv_le_self _ hi.1
  have t3 : 0 ≤ Int.tmod i (B - S) := Int.tmod_nonneg _ hi.1
  have t4 : Int.tmod i (B - S) < B - S := Int.tmod_lt_of_pos _ (by omega)
  generalize Int.tdiv i (B - S) = q at *
  generalize Int.tmod i (B - S) = m at *
  have t5 : 0 ≤ q * B := Int.mul_nonneg t1 (by omega)
  have t6 : q * B ≤ 36 * 12 := Int.mul_le_mul (by omega) (by omega) (by omega) (by omega)
  rw [w64 (n := q) (by omega) (by omega), w64 (n := q * B) (by omega) (by omega), w64 (by omega) (by omega)]
  omega
def die (B S i : Int) : Int := wrap64 (Int.tdiv (hom B S i) B)
theorem die_range (B S i : Int) (hB : 4 ≤ B ∧ B ≤ 12) (hS : 1 ≤ S ∧ S < B - 1) (hi : 0 ≤ i ∧ i ≤ 36) : 0 ≤ die B S i ∧ die B S i ≤ 1000 := by
  obtain ⟨h1, h2⟩ := hom_range B S i hB hS hi
  unfold die
  have t1 : 0 ≤ Int.tdiv (hom B S i) B := Int.tdiv_nonneg h1 (by omega)
  have t2 : Int.tdiv (hom B S i) B ≤ hom B S i := by
    rw [Int.tdiv_eq_ediv_of_nonneg h1]
    exact Int.ediv_le_self _ h1
  rw [w64 (by omega) (by omega)]
  omega
def spareL (B S D : Int) : List Int := (List.range S.toNat).map (fun j : Nat => D * B + (B - S) + j)
theorem spares_l (a0 a1 a2 a3 : Int) (l4 l5 : List Int) (D : Int) (hB : 4 ≤ a1 ∧ a1 ≤ 12) (hD : 0 ≤ D ∧ D ≤ 1000) (d : Nat) : ∀ (k : Nat) (t : Int) (xs : List Int), t + d = a1 → 0 ≤ t → xs.length + d ≤ 100 → d < k → impl_BadTable_spares.l0 k D xs t a0 a1 a2 a3 l4 l5 = some (xs ++ (List.range d).map (fun j : Nat => D * a1 + t + j)) := by
  have t5 : 0 ≤ D * a1 := Int.mul_nonneg hD.1 (by omega)
  have t6 : D * a1 ≤ 1000 * 12 := Int.mul_le_mul hD.2 hB.2 (by omega) (by omega)
  induction d with
  | zero =>
    intro k t xs ht h0 hx hk
    obtain ⟨k, rfl⟩ : ∃ n, k = n + 1 := ⟨k - 1, by omega⟩
    rw [impl_BadTable_spares.l0, if_neg (by omega)]
    simp
  | succ d ih =>
    intro k t xs ht h0 hx hk
    obtain ⟨k, rfl⟩ : ∃ n, k = n + 1 := ⟨k - 1, by omega⟩
    rw [impl_BadTable_spares.l0, if_pos (by omega), if_pos (by omega), w64 (n := D * a1) (by omega) (by omega), w64 (n := t + 1) (by omega) (by omega), w64 (by omega) (by omega), ih k (t + 1) _ (by omega) (by omega) (by rw [List.length_append]; simp; omega) (by omega)]
    rw [List.append_assoc, List.range_succ_eq_map]
    simp only [List.map_cons, List.map_map, List.singleton_append]
    congr 3
    · simp
    · apply List.map_congr_left
      intro j _
      simp
      omega
theorem spares_f (a0 a1 a2 a3 : Int) (l4 l5 : List Int) (D : Int) (hB : 4 ≤ a1 ∧ a1 ≤ 12) (hS : 1 ≤ a3 ∧ a3 < a1 - 1) (hD : 0 ≤ D ∧ D ≤ 1000) (k : Nat) (hk : 100 < k) : impl_BadTable_spares.f k a0 a1 a2 a3 l4 l5 D = some (spareL a1 a3 D) := by
  unfold impl_BadTable_spares.f impl_BadTable_primary.f
  simp only [Option.bind_some]
  rw [w64 (by omega) (by omega), spares_l a0 a1 a2 a3 l4 l5 D hB hD a3.toNat k (a1 - a3) [] (by omega) (by omega) (by simp; omega) (by omega)]
  rfl
theorem spareL_len (B S D : Int) : (spareL B S D).length = S.toNat := by simp [spareL]
/-- A row of Int, marked from v on up to place i. -/
def mkInt64 (v : Int) (l : List Int) (i : Nat) : List Int := tabG (fun j : Nat => v + (j : Int)) i ++ l.drop i
theorem mkInt64_length (v : Int) (l : List Int) (i : Nat) (h : i ≤ l.length) : (mkInt64 v l i).length = l.length := by simp [mkInt64, tabG_length]; omega
theorem mkInt64_set (v : Int) (l : List Int) (i : Nat) (h : i < l.length) : (mkInt64 v l i).set i (v + (i : Int)) = mkInt64 v l (i + 1) := by
  unfold mkInt64
  rw [List.set_append_right _ _ (by rw [tabG_length]; exact Nat.le_refl _), tabG_length, Nat.sub_self, List.drop_eq_getElem_cons h, List.set_cons_zero, tabG_succ, List.append_assoc]
  rfl
theorem markInt64_l (v : Int) (v0 : 0 ≤ v) (v1 : v ≤ 100000000) (l : List Int) (hl : l.length ≤ 1048576) (d : Nat) : ∀ (k i : Nat), i + d = l.length → d < k → laws_markInt64S.l0 k (mkInt64 v l i) (v + (i : Int)) (i : Int) = some (v + (l.length : Int), tabG (fun j : Nat => v + (j : Int)) l.length) := by
  induction d with
  | zero =>
    intro k i hi hk
    obtain ⟨k, rfl⟩ : ∃ n, k = n + 1 := ⟨k - 1, by omega⟩
    obtain rfl : i = l.length := by omega
    rw [laws_markInt64S.l0, if_neg (by rw [mkInt64_length _ _ _ (Nat.le_refl _)]; omega)]
    simp [mkInt64]
  | succ d ih =>
    intro k i hi hk
    obtain ⟨k, rfl⟩ : ∃ n, k = n + 1 := ⟨k - 1, by omega⟩
    have t : ((i : Int)).toNat = i := by omega
    have e2 : ((i + 1 : Nat) : Int) = (i : Int) + 1 := by omega
    have e := ih k (i + 1) (by omega) (by omega)
    rw [e2, ← Int.add_assoc] at e
    rw [laws_markInt64S.l0, if_pos (by rw [mkInt64_length _ _ _ (by omega)]; omega), if_pos (by omega), t, mkInt64_set _ _ _ (by omega), w64 (n := v + (i : Int) + 1) (by omega) (by omega), w64 (by omega) (by omega)]
    exact e
theorem markInt64_f (v : Int) (v0 : 0 ≤ v) (v1 : v ≤ 100000000) (l : List Int) (hl : l.length ≤ 1048576) (k : Nat) (hk : l.length < k) : laws_markInt64S.f k l v = some (v + (l.length : Int), tabG (fun j : Nat => v + (j : Int)) l.length) := by
  have e := markInt64_l v v0 v1 l hl l.length k 0 (by omega) hk
  have e0 : v + ((0 : Nat) : Int) = v := by omega
  rw [e0] at e
  exact e
theorem heldInt64_l (v : Int) (v0 : 0 ≤ v) (v1 : v ≤ 100000000) (n : Nat) (hl : n ≤ 1048576) (d : Nat) : ∀ (k i : Nat), i + d = n → d < k → laws_heldInt64S.l0 k (tabG (fun j : Nat => v + (j : Int)) n) (v + (i : Int)) (i : Int) = some (v + (n : Int)) := by
  induction d with
  | zero =>
    intro k i hi hk
    obtain ⟨k, rfl⟩ : ∃ n, k = n + 1 := ⟨k - 1, by omega⟩
    obtain rfl : i = n := by omega
    rw [laws_heldInt64S.l0, if_neg (by rw [tabG_length]; omega)]
  | succ d ih =>
    intro k i hi hk
    obtain ⟨k, rfl⟩ : ∃ n, k = n + 1 := ⟨k - 1, by omega⟩
    have e : rd (tabG (fun j : Nat => v + (j : Int)) n) (i : Int) = v + (i : Int) := by
      have hi : i < n := by omega
      simp [rd, tabG, List.getD_eq_getElem?_getD, hi]
    have e2 : ((i + 1 : Nat) : Int) = (i : Int) + 1 := by omega
    have g := ih k (i + 1) (by omega) (by omega)
    rw [e2, ← Int.add_assoc] at g
    rw [laws_heldInt64S.l0, if_pos (by rw [tabG_length]; omega), if_pos (by omega), e, if_pos rfl, w64 (n := v + (i : Int) + 1) (by omega) (by omega), w64 (by omega) (by omega)]
    exact g
theorem heldInt64_f (v : Int) (v0 : 0 ≤ v) (v1 : v ≤ 100000000) (n : Nat) (hl : n ≤ 1048576) (k : Nat) (hk : n < k) : laws_heldInt64S.f k (tabG (fun j : Nat => v + (j : Int)) n) v = some (v + (n : Int)) := by
  have e := heldInt64_l v v0 v1 n hl n k 0 (by omega) hk
  have e0 : v + ((0 : Nat) : Int) = v := by omega
  rw [e0] at e
  exact e
theorem any_mem (l : List Int) (x : Int) : l.any (fun y => y == x) = decide (x ∈ l) := by
  rw [Bool.eq_iff_iff, List.any_eq_true, decide_eq_true_iff]
  constructor
  · rintro ⟨y, hy, e⟩
    rw [← beq_iff_eq.1 e]
    exact hy
  · intro h
    exact ⟨x, h, by simp⟩
def freeP (l4 l5 : List Int) (b : Int) : Bool := !(decide (b ∈ l4) || decide (b ∈ l5))
theorem spare_get (B S D : Int) (j : Nat) (h : j < (spareL B S D).length) : (spareL B S D)[j] = D * B + (B - S) + j := by simp [spareL]
theorem avail_l (a0 a1 a2 a3 : Int) (l4 l5 : List Int) (D : Int) (hB : 4 ≤ a1 ∧ a1 ≤ 12) (hS : 1 ≤ a3 ∧ a3 < a1 - 1) (hD : 0 ≤ D ∧ D ≤ 1000) (h4 : l4.length ≤ 1048576) (h5 : l5.length ≤ 36) (d : Nat) :
    ∀ (k j : Nat) (x : List Int), j + d = a3.toNat → d + 1048600 < k → x.length ≤ j → spec_l07Available.l0 k D x (D * a1 + (a1 - a3) + j) a0 a1 a2 a3 l4 l5 = some (x ++ ((spareL a1 a3 D).drop j).filter (freeP l4 l5)) := by
  have t5 : 0 ≤ D * a1 := Int.mul_nonneg hD.1 (by omega)
  have t6 : D * a1 ≤ 1000 * 12 := Int.mul_le_mul hD.2 hB.2 (by omega) (by omega)
  have t7 : (D + 1) * a1 = D * a1 + a1 := by rw [Int.add_mul, Int.one_mul]
  have hlen := spareL_len a1 a3 D
  induction d with
  | zero =>
    intro k j x hj hk hx
    obtain ⟨k, rfl⟩ : ∃ n, k = n + 1 := ⟨k - 1, by omega⟩
    rw [spec_l07Available.l0, w64 (n := D + 1) (by omega) (by omega), t7, w64 (n := D * a1 + a1) (by omega) (by omega), if_neg (by omega), List.drop_eq_nil_of_le (by omega)]
    simp
  | succ d ih =>
    intro k j x hj hk hx
    obtain ⟨k, rfl⟩ : ∃ n, k = n + 1 := ⟨k - 1, by omega⟩
    have hlt : j < (spareL a1 a3 D).length := by omega
    have e3 : D * a1 + (a1 - a3) + (j : Int) + 1 = D * a1 + (a1 - a3) + ((j + 1 : Nat) : Int) := by omega
    rw [spec_l07Available.l0, w64 (n := D + 1) (by omega) (by omega), t7, w64 (n := D * a1 + a1) (by omega) (by omega), if_pos (by omega), has_f l4 h4 _ k (by omega), List.drop_eq_getElem_cons hlt, spare_get, List.filter_cons]
    simp only [Option.bind_some]
    rw [w64 (n := D * a1 + (a1 - a3) + (j : Int) + 1) (by omega) (by omega), e3]
    rw [show freeP l4 l5 (D * a1 + (a1 - a3) + (j : Int)) = !(decide (D * a1 + (a1 - a3) + (j : Int) ∈ l4) || decide (D * a1 + (a1 - a3) + (j : Int) ∈ l5)) from rfl]
    by_cases c1 : decide (D * a1 + (a1 - a3) + (j : Int) ∈ l4) = true
    · rw [if_pos c1, c1, ih k (j + 1) x (by omega) (by omega) (by omega)]
      simp
    · rw [if_neg c1, has_f l5 (by omega) _ k (by omega), Bool.eq_false_iff.mpr c1]
      simp only [Option.bind_some]
      by_cases c2 : decide (D * a1 + (a1 - a3) + (j : Int) ∈ l5) = true
      · rw [if_pos c2, c2, ih k (j + 1) x (by omega) (by omega) (by omega)]
        simp
      · rw [if_neg c2, Bool.eq_false_iff.mpr c2, if_pos (by omega), ih k (j + 1) _ (by omega) (by omega) (by simp; omega)]
        simp
theorem avail_both (a0 a1 a2 a3 : Int) (l4 l5 : List Int) (D : Int) (hB : 4 ≤ a1 ∧ a1 ≤ 12) (hS : 1 ≤ a3 ∧ a3 < a1 - 1) (hD : 0 ≤ D ∧ D ≤ 1000) (h4 : l4.length ≤ 1048576) (h5 : l5.length ≤ 36) (k : Nat) (hk : 1048800 < k) :
    spec_l07Available.f k a0 a1 a2 a3 l4 l5 D = some ((spareL a1 a3 D).filter (freeP l4 l5)) ∧ impl_BadTable_available.f k a0 a1 a2 a3 l4 l5 D = some ((spareL a1 a3 D).filter (freeP l4 l5)) := by
  have t5 : 0 ≤ D * a1 := Int.mul_nonneg hD.1 (by omega)
  have t6 : D * a1 ≤ 1000 * 12 := Int.mul_le_mul hD.2 hB.2 (by omega) (by omega)
  have t7 : (D + 1) * a1 = D * a1 + a1 := by rw [Int.add_mul, Int.one_mul]
  constructor
  · unfold spec_l07Available.f
    have e := avail_l a0 a1 a2 a3 l4 l5 D hB hS hD h4 h5 a3.toNat k 0 [] (by omega) (by omega) (by simp)
    rw [w64 (n := D + 1) (by omega) (by omega), t7, w64 (n := D * a1 + a1) (by omega) (by omega), w64 (n := D * a1 + a1 - a3) (by omega) (by omega)]
    have e4 : D * a1 + a1 - a3 = D * a1 + (a1 - a3) + ((0 : Nat) : Int) := by omega
    rw [e4, e]
    rfl
  · unfold impl_BadTable_available.f
    rw [spares_f a0 a1 a2 a3 l4 l5 D hB hS hD k (by omega)]
    simp only [Option.bind_some]
    rw [if_pos (by rw [spareL_len]; omega)]
    congr 1
    apply List.filter_congr
    intro b _
    show (!(l4.any (fun y => y == b) || l5.any (fun y => y == b))) = !(decide (b ∈ l4) || decide (b ∈ l5))
    rw [any_mem, any_mem]
theorem up {α : Type} (f : Nat → Option α) (m : ∀ k, LeO (f k) (f (k + 1))) {r : α} {k0 : Nat} (h : f k0 = some r) (d : Nat) : f (k0 + d) = some r := by
  induction d with
  | zero => exact h
  | succ d ih => exact m (k0 + d) r ih
theorem rounds (a0 B a2 S : Int) (l4 : List Int) (hB : 4 ≤ B ∧ B ≤ 12) (hS : 1 ≤ S ∧ S < B - 1) (h4 : l4.length ≤ 1048576) (n : Nat) (hn : (n : Int) = a0 * (B - S)) (hn2 : n ≤ 36) (d : Nat) :
    ∀ (k i : Nat) (l5 : List Int), i + d = n → d + 1048900 < k → l5.length = i →
      ∃ r, spec_NewBadTable.l0 k S (i : Int) a0 B a2 a0 B a2 S l4 l5 = some r ∧ impl_NewBadTable.l0 k (n : Int) (i : Int) a0 B a2 a0 B a2 S l4 l5 = some r ∧ r.2.2.2.2.1.length ≤ 1048576 ∧ r.2.2.2.2.2.1.length ≤ 40 := by
  have w1 : wrap64 (B - S) = B - S := w64 (by omega) (by omega)
  have w2 : wrap64 (a0 * (B - S)) = a0 * (B - S) := w64 (by omega) (by omega)
  induction d with
  | zero =>
    intro k i l5 hi hk h5
    obtain ⟨k, rfl⟩ : ∃ n, k = n + 1 := ⟨k - 1, by omega⟩
    rw [spec_NewBadTable.l0, impl_NewBadTable.l0, w1, w2, ← hn, if_neg (by omega), if_neg (by omega)]
    exact ⟨_, rfl, rfl, h4, by show l5.length ≤ 40; omega⟩
  | succ d ih =>
    intro k i l5 hi hk h5
    obtain ⟨k, rfl⟩ : ∃ n, k = n + 1 := ⟨k - 1, by omega⟩
    have e2 : ((i + 1 : Nat) : Int) = (i : Int) + 1 := by omega
    have hr := hom_range B S (i : Int) hB hS (by omega)
    have dr := die_range B S (i : Int) hB hS (by omega)
    have sh : spec_l07Home.f a0 B a2 S l4 l5 (i : Int) = some (hom B S (i : Int)) := by
      unfold spec_l07Home.f hom
      rw [w1, if_neg (by omega)]
    have ih1 : impl_BadTable_home.f a0 B a2 S l4 l5 (i : Int) = some (hom B S (i : Int)) := by
      unfold impl_BadTable_home.f impl_BadTable_primary.f hom
      simp only [Option.bind_some]
      rw [w1, if_neg (by omega), if_neg (by omega)]
    rw [spec_NewBadTable.l0, impl_NewBadTable.l0, w1, w2, ← hn, if_pos (by omega), if_pos (by omega), sh, ih1]
    simp only [Option.bind_some]
    unfold impl_BadTable_isBad.f
    rw [has_f l4 h4 _ k (by omega), con_f l4 h4 _ k (by omega), w64 (n := (i : Int) + 1) (by omega) (by omega), ← e2]
    simp only [Option.bind_some]
    by_cases c : decide (hom B S (i : Int) ∈ l4) = true
    · rw [if_pos c, if_pos c, if_neg (by omega), if_neg (by omega)]
      obtain ⟨b1, b2⟩ := avail_both a0 B a2 S l4 l5 (die B S (i : Int)) hB hS dr h4 (by omega) k (by omega)
      unfold die at b1 b2
      rw [b1, b2]
      simp only [Option.bind_some]
      by_cases c2 : ((((spareL B S (wrap64 (Int.tdiv (hom B S (i : Int)) B))).filter (freeP l4 l5)).length : Nat) : Int) = 0
      · rw [if_pos c2, if_pos c2]
        exact ⟨_, rfl, rfl, by simp, by simp⟩
      · rw [if_neg c2, if_neg c2, if_pos (by omega), if_pos (by omega), if_pos (by omega), if_pos (by omega)]
        exact ih k (i + 1) _ (by omega) (by omega) (by rw [List.length_append, h5]; rfl)
    · rw [if_neg c, if_neg c, if_pos (by omega), if_pos (by omega)]
      exact ih k (i + 1) _ (by omega) (by omega) (by rw [List.length_append, h5]; rfl)
theorem new_both (a0 B a2 S : Int) (l : List Int) (h4 : l.length ≤ 1048576) (k : Nat) (hk : 1049000 < k) :
    ∃ r, spec_NewBadTable.f k a0 B a2 S l = some r ∧ impl_NewBadTable.f k a0 B a2 S l = some r ∧ r.2.2.2.2.1.length ≤ 1048576 ∧ r.2.2.2.2.2.1.length ≤ 40 := by
  obtain ⟨b, e1, e2⟩ := rises_eq a0 B a2 l h4 k (by omega)
  have hg : spec_ValidGeometry.f a0 B a2 = impl_ValidGeometry.f a0 B a2 := rfl
  unfold spec_NewBadTable.f spec_l07Shape.f spec_l07Count.f spec_l00Own.f impl_NewBadTable.f
  rw [hg]
  obtain ⟨g, eg, gr⟩ : ∃ g, impl_ValidGeometry.f a0 B a2 = some g ∧ (g = true → (2 ≤ a0 ∧ a0 ≤ 3) ∧ (4 ≤ B ∧ B ≤ 12)) := by
    unfold impl_ValidGeometry.f
    rw [iin_f, iin_f]
    simp only [Option.bind_some]
    by_cases c1 : inB a0 2 3 = true
    · rw [if_pos c1]
      by_cases c2 : inB B 4 12 = true
      · rw [if_pos c2]
        rw [inB_iff] at c1 c2
        by_cases c3 : a2 = 8
        · rw [if_pos c3]
          exact ⟨true, rfl, fun _ => ⟨c1, c2⟩⟩
        · rw [if_neg c3]
          exact ⟨_, rfl, fun _ => ⟨c1, c2⟩⟩
      · rw [if_neg c2]
        exact ⟨false, rfl, fun h => by simp at h⟩
    · rw [if_neg c1]
      exact ⟨false, rfl, fun h => by simp at h⟩
  rw [eg]
  simp only [Option.bind_some]
  cases g with
  | false =>
    rw [if_neg (by simp), if_neg (by simp)]
    exact ⟨_, rfl, rfl, by simp, by simp⟩
  | true =>
    obtain ⟨r0, r1⟩ := gr rfl
    rw [if_pos rfl, if_pos rfl, if_pos (by simp; omega)]
    simp only [Option.bind_some, if_true, List.nil_append]
    unfold impl_spareOk.f
    rw [sin_f, iin_f]
    simp only [Option.bind_some]
    by_cases c3 : inB S 1 4 = true
    · rw [if_pos c3, if_pos c3]
      rw [inB_iff] at c3
      rw [w64 (n := B - 1) (by omega) (by omega)]
      by_cases c4 : S < B - 1
      · rw [if_pos c4, decide_eq_true c4, e1, e2]
        simp only [Option.bind_some, if_true]
        cases b with
        | false =>
          rw [if_neg (by simp), if_neg (by simp)]
          exact ⟨_, rfl, rfl, by simp, by simp⟩
        | true =>
          rw [if_pos rfl, if_pos rfl]
          unfold slices_Clone_int64_int64.f impl_BadTable_logical.f impl_BadTable_primary.f
          rw [if_pos (by omega)]
          simp only [Option.bind_some]
          have t5 : 0 ≤ a0 * (B - S) := Int.mul_nonneg (by omega) (by omega)
          have t6 : a0 * (B - S) ≤ 3 * 11 := Int.mul_le_mul (by omega) (by omega) (by omega) (by omega)
          obtain ⟨n, hn⟩ : ∃ n : Nat, (n : Int) = a0 * (B - S) := ⟨(a0 * (B - S)).toNat, by omega⟩
          rw [w64 (n := B - S) (by omega) (by omega), w64 (n := a0 * (B - S)) (by omega) (by omega), ← hn]
          exact rounds a0 B a2 S l r1 ⟨c3.1, c4⟩ h4 n hn (by omega) n k 0 [] (by omega) (by omega) rfl
      · rw [if_neg c4, decide_eq_false c4]
        simp only [Option.bind_some]
        rw [if_neg (by simp), if_neg (by simp)]
        exact ⟨_, rfl, rfl, by simp, by simp⟩
    · rw [if_neg c3, if_neg c3]
      simp only [Option.bind_some]
      rw [if_neg (by simp), if_neg (by simp)]
      exact ⟨_, rfl, rfl, by simp, by simp⟩
theorem FnExactNewBadTable : laws_FnExactNewBadTable.Pure := by
  intro a0 B a2 S l _ _ _ _ hl
  have hl2 : l.length ≤ 9223372036854775807 := hl.1
  refine ⟨1050003, ?_⟩
  unfold laws_FnExactNewBadTable.f
  by_cases c : (l.length : Int) > 1048576
  · rw [if_pos c]
  · rw [if_neg c]
    obtain ⟨r, s0, i0, n4, n5⟩ := new_both a0 B a2 S l (by omega) 1050000 (by omega)
    have s3 : spec_NewBadTable.f 1050003 a0 B a2 S l = some r := up (fun k => spec_NewBadTable.f k a0 B a2 S l) (fun k => spec_NewBadTable.mono a0 B a2 S l k) s0 3
    have i3 : impl_NewBadTable.f 1050003 a0 B a2 S l = some r := up (fun k => impl_NewBadTable.f k a0 B a2 S l) (fun k => impl_NewBadTable.mono a0 B a2 S l k) i0 3
    have i1 : impl_NewBadTable.f 1050001 a0 B a2 S l = some r := up (fun k => impl_NewBadTable.f k a0 B a2 S l) (fun k => impl_NewBadTable.mono a0 B a2 S l k) i0 1
    obtain ⟨q0, q1, q2, q3, q4, q5, q6⟩ := r
    replace n4 : q4.length ≤ 1048576 := n4
    replace n5 : q5.length ≤ 40 := n5
    have t3 := laws_toInt64S_f l (by omega) 1050003 (by omega)
    have t2 := laws_toInt64S_f l (by omega) 1050002 (by omega)
    have t1 := laws_toInt64S_f l (by omega) 1050001 (by omega)
    have qq : ∀ k, 1049000 < k → laws_eqBadTable.f k q0 q1 q2 q3 q4 q5 q0 q1 q2 q3 q4 q5 = some true := fun k hk => eq_bt q0 q1 q2 q3 q4 q5 n4 (by omega) k (by omega) (by omega)
    have mk : laws_markBadTable.f 1050001 q0 q1 q2 q3 q4 q5 1 = some (1 + (q4.length : Int) + (q5.length : Int), tabG (fun j : Nat => 1 + (j : Int)) q4.length, tabG (fun j : Nat => 1 + (q4.length : Int) + (j : Int)) q5.length) := by
      unfold laws_markBadTable.f
      rw [markInt64_f 1 (by omega) (by omega) q4 (by omega) 1050001 (by omega)]
      simp only [Option.bind_some]
      rw [markInt64_f (1 + (q4.length : Int)) (by omega) (by omega) q5 (by omega) 1050001 (by omega)]
      rfl
    have hd : ∀ k, 1049000 < k → laws_heldBadTable.f k q0 q1 q2 q3 (tabG (fun j : Nat => 1 + (j : Int)) q4.length) (tabG (fun j : Nat => 1 + (q4.length : Int) + (j : Int)) q5.length) 1 = some (1 + (q4.length : Int) + (q5.length : Int)) := by
      intro k hk
      unfold laws_heldBadTable.f
      rw [heldInt64_f 1 (by omega) (by omega) q4.length (by omega) k (by omega)]
      simp only [Option.bind_some]
      rw [if_neg (by omega), heldInt64_f (1 + (q4.length : Int)) (by omega) (by omega) q5.length (by omega) k (by omega)]
      simp only [Option.bind_some]
      rw [if_neg (by omega)]
    unfold laws_toGeometry.f
    simp only [Option.bind_some]
    rw [t3]
    simp only [Option.bind_some]
    rw [s3, i3]
    simp only [Option.bind_some]
    rw [qq 1050003 (by omega)]
    simp only [Option.bind_some, if_true]
    rw [show (q6 != q6) = false by simp, show (1050003 : Nat) = 1050002 + 1 from rfl, laws_FnExactNewBadTable.j0, if_neg (by simp), t2]
    simp only [Option.bind_some]
    rw [laws_eqInt64S_f l (by omega) 1050002 (by omega)]
    simp only [Option.bind_some, if_true]
    rw [markInt64_f 1 (by omega) (by omega) l (by omega) 1050002 (by omega)]
    simp only [Option.bind_some]
    rw [if_neg (by omega), qq 1050002 (by omega)]
    simp only [Option.bind_some, if_true]
    rw [show (q6 != q6) = false by simp, show (1050002 : Nat) = 1050001 + 1 from rfl, laws_FnExactNewBadTable.j1, if_neg (by simp), mk]
    simp only [Option.bind_some]
    rw [hd 1050001 (by omega)]
    simp only [Option.bind_some]
    rw [if_neg (by omega), if_pos trivial]
    unfold laws_toGeometry.f
    simp only [Option.bind_some]
    rw [t1]
    simp only [Option.bind_some]
    rw [i1]
    simp only [Option.bind_some]
    rw [qq 1050001 (by omega)]
    simp only [Option.bind_some, if_true]
    rw [show (q6 != q6) = false by simp, show (1050001 : Nat) = 1050000 + 1 from rfl, laws_FnExactNewBadTable.j2, if_neg (by simp), hd 1050000 (by omega)]
    simp only [Option.bind_some]
    rw [if_neg (by omega), if_pos trivial]

end Go.Proofs.Ytchpgjhbmeokaaa.Pure
